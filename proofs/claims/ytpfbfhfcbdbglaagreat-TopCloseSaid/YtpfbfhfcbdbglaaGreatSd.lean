/- Walks and plain facts. No condition. -/
import Derived.Test.YtpfbfhfcbdbglaaGreatSc
import Derived.Deep.RegionLawGrows
namespace Go.Proofs.YtpfbfhfcbdbglaaGreat
open Go.RowKit Go.Proofs.Tryz
set_option maxHeartbeats 8000000
set_option maxRecDepth 100000
set_option linter.all false
variable{P:Prop}
theorem _root_.Go.Shut.Y{p:Prop}(h:Shut p):p:=h
theorem SI(h:P:=by
 unfold fJ;repeat' split
 all_goals first
  |rfl
  |(exfalso;omega)):P:=h
theorem ZQ(h:P:=by
 obtain⟨aC,bC,bb⟩:=ag.aF HR.Y.blk;unfold bI at aC;go_wp2_with fail;go_end0;refine cW.then HF.Y ?_;exact cW.leaf HR.Y s o {HR.Y.tk with} HR.Y.op rfl):P:=h
theorem ZY(h:P:=by
 go_roundw;case rel=>exact⟨j+1,by omega,by go_num,bU,j5⟩
 case measure=>simp[intOf];omega):P:=h
theorem ZZ(h:P:=by
 go_wp2_with fail;go_ret;exact⟨_,_,rfl,HO.Y,HB.Y⟩):P:=h
theorem abT(h:P:=by
 rw[pY];clear hE pY;go_enter func109,ntmps109;go_wp2_with fail;clear aC bC;go_region_held3(RX w p m 0 0) (exact gw) (first
  |((with_reducible refine(HA.Y _).mono ?_);rintro e f ⟨rfl,a⟩;have mg:=RX.below (by assumption) a;(try have nG:=dA.Y _ _ (by assumption) a);(try have nR:=HFm.Y _ _ (by assumption) a)))
 all_goals
  have ig:=ae nG;have sW:=ae nR;clear aT bb gq ij dA HFm a mg nG nR;have ir:=ae ig.Y;obtain⟨gq,ij,dA,HFm,bb⟩:=ig.Y.cT;have aT:=ir.Y.cx;unfold bI at aT;obtain⟨aC,bC,-⟩:=ag.aF ig.Y.blk;unfold bI at aC;rw[cB]at aC;go_wp2_with fail;clear aC bC;go_region_held3(RX f p m 0 0) (exact gw) (first
   |((with_reducible refine(HZ.Y _).mono ?_);rintro e i ⟨rfl,c⟩;have nE:=RX.below (by assumption) c;(try have zK:=dA.Y _ _ (by assumption) c);(try have wG:=HFm.Y _ _ (by assumption) c))
   |((with_reducible refine(HST.Y _ (by assumption)).mono ?_);rintro e j ⟨rfl,g,d,b⟩;have jR:=RX.acc (by assumption) ir.Y.blk b (d.kept b rfl);have eJ:=cP.trans (by assumption) b))
  all_goals
   have HR:=ae d;have HF:=ae (sW.Y.trans eJ);clear d b eJ aT bb;obtain⟨aC,bC,bb⟩:=ag.aF HR.Y.blk;unfold bI Mo.Rn.store at aC;dsimp only at aC;rw[ZS]at aC;go_wp2_with fail;go_end0;refine cW.then HF.Y ?_;exact cW.leaf HR.Y s o {HR.Y.tk with} HR.Y.op rfl):P:=h
theorem abW(h:P:=by
 rw[pY];clear h5 hE pY;go_enter func107,ntmps107;go_wp2_with fail;(with_reducible refine(nV.Y _ HH.Y).mono ?_);rintro e f ⟨rfl,c⟩;have ig:=ae (HH.Y.more c);have sW:=ae (cP.ext c p m);clear c aC bC bb nV;have ir:=ae ig.Y;obtain⟨gq,ij,dA,HFm,bb⟩:=ig.Y.cT;have aT:=ir.Y.cx;unfold bI at aT;obtain⟨aC,bC,-⟩:=ag.aF ig.Y.blk;unfold bI at aC;rw[cB]at aC;have fy:∀wx,RX f p m 0 0 wx->wx.cell? (ad.add jn)=some (.int .u64 z):=λwx hx=>by
  have h:=(ir.Y.tk.nx.same λb hb=>hx.eq b hb.1 hb.2.1 hb.2.2.1).1
  obtain⟨ad',z',h1,h2,h3⟩:=h.at_ (i:=jn) hlt
  rw[HA.Y]at h1
  rw[HZ.Y]at h2
  injection h1 with h1;injection h2 with h2
  rw[h1,h2];exact h3
 rw[HJ.Y,HA.Y]at aC aT;go_wp2_with fail;clear aC bC;go_region_held3(RX f p m 0 0) (exact gw) (first
  |((with_reducible refine(HST.Y _ (by assumption)).mono ?_);rintro e j ⟨rfl,g,d,a⟩;have jR:=RX.acc (by assumption) ir.Y.blk a (d.kept a rfl);have eJ:=cP.trans (by assumption) a))
 all_goals
  have HR:=ae d;have HF:=ae (sW.Y.trans eJ);clear d a eJ aT fy bb;obtain⟨aC,bC,bb⟩:=ag.aF HR.Y.blk;unfold bI Mo.Rn.store at aC;dsimp only at aC;rw[HJ.Y]at aC;go_wp2_with fail;go_quiet(fail);go_wp2_with fail;go_end0;refine cW.then HF.Y ?_;exact cW.leaf HR.Y s o {HR.Y.tk with} HR.Y.op rfl):P:=h
theorem abV(h:P:=by
 (try simp only[aL]);refine eQ 14 (λK hK=>?_);go_simp;((first|rw[gp Xo,gp Xq,gp Xr,gp Xs,gp Xt]|rw[gp d22,gp d23,gp d24,gp d25,gp d26]);(with_reducible refine(HAW.Y _ _ hC).mono ?_);rintro e k ⟨v,rfl,c,j,d,i,rfl,f,g,a⟩;unfold mo;have J4:=RX.below (by assumption) a;have hD:=hC.more a;have zb:=cP.trans eJ (cP.ext a p mC));go_wp2_with fail;refine hK.Y _ _ gw (λhHeld=>?_);clear hK K;(try simp only[aL]);refine aU 15 (by assumption) ?_;(try simp only[aL]);refine aU 16 (by assumption) ?_;(try simp only[aL]);refine aU 17 (by assumption) ?_;(try simp only[aL]);refine eQ 18 (λK hK=>?_);go_simp;refine hK.Y _ _ gw (λhHeld=>?_);clear hK K;(try simp only[aL]);refine wpAnyH_done (by kernel_rfl) ?_ _;have HR:=ae hD;have HF:=ae (sW.Y.trans zb);have rJ:Hid (oh k (Im k X p mC) {r.k with aJ:=P1} {s with fr:=⟨c,j⟩,ol:=⟨d,i⟩}):=wU.tk hD.tk f g (λb h0 h1=>Im.fresh hC h0 h1) _ rfl;clear hC fC eJ hD zb aT q8 kf iM bb f g J5 d22 d23 d24 d25 d26 Xo Xq Xr Xs Xt;obtain⟨aC,bC,bb⟩:=ag.aF HR.Y.blk;unfold bI at aC;go_wp2_with fail;go_end0;refine cW.then HF.Y ?_;exact cW.leaf HR.Y {s with fr:=⟨c,j⟩,ol:=⟨d,i⟩} o {rJ.Y with} HR.Y.op rfl):P:=h
theorem abS(h:P:=by
 rw[pY];clear h5 hE pY cB;obtain⟨a,ha⟩:∃a,a=Mo.kn c t:=⟨_,rfl⟩
 rw[<-ha]at HA HST e1 ⊢;clear ha;go_enter func108,ntmps108;go_wp2_with fail;clear aC bC;go_region_held3(RX w p m 0 0) (exact gw) (first
  |((with_reducible refine(HA.Y _).mono ?_);rintro e i ⟨rfl,d⟩;have mg:=RX.below (by assumption) d;(try have nG:=dA.Y _ _ (by assumption) d);(try have nR:=HFm.Y _ _ (by assumption) d))
  |((with_reducible refine(HST.Y _ (by assumption)).mono ?_);rintro e j ⟨rfl,g,f,b⟩;have jR:=RX.acc (by assumption) HH.Y.blk b (f.kept b rfl);have eJ:=cP.trans (by assumption) b))
 all_goals
  have HR:=ae f;have HF:=ae eJ;clear f b eJ aT fy bb;obtain⟨aC,bC,bb⟩:=ag.aF HR.Y.blk;unfold bI Mo.Rn.store at aC;dsimp only at aC;rw[HJ.Y]at aC;go_wp2_with fail;go_end0;refine cW.then HF.Y ?_;exact cW.leaf HR.Y s o {HR.Y.tk with} HR.Y.op rfl):P:=h
theorem abR(h:P:=by
 go_wp2_with fail;clear aC bC;go_region_held3(RX w p m 0 0) (exact gw) (first
  |((with_reducible refine(HA.Y _).mono ?_);rintro e f ⟨rfl,b⟩;have mg:=RX.below (by assumption) b;(try have nG:=dA.Y _ _ (by assumption) b);(try have nR:=HFm.Y _ _ (by assumption) b))
  |((with_reducible refine(HST.Y _ (by assumption)).mono ?_);rintro e g ⟨rfl,d,c,a⟩;have jR:=RX.acc (by assumption) HH.Y.blk a (c.kept a rfl);have eJ:=cP.trans (by assumption) a))
 all_goals
  have HR:=ae c;have HF:=ae eJ;clear c a eJ aT bb;obtain⟨aC,bC,bb⟩:=ag.aF HR.Y.blk;unfold bI at aC;go_wp2_with fail;go_end0;refine cW.then HF.Y ?_;exact cW.leaf HR.Y s o {HR.Y.tk with} HR.Y.op rfl):P:=h
theorem ab3(h:P:=by
 go_enter func74,ntmps74;go_wp2_with fail;refine(HH.Y _ _).mono ?_;rintro e a ⟨rfl,rfl⟩;rw[hi];go_wp2_with fail;refine bodyPost_ret (v:=.tuple #[.agg #[.bool false,.bool false,.bool false,.int .i64 0,.slice none 0 0,.int .i64 0,.int .i64 0],.bool false]) (by simp[results,results74,go_sem]) rfl (HX.Y Am.Y _ (aj (ai _) _))):P:=h
theorem ab0(h:P:=by
 obtain⟨aC,bC,bb⟩:=ag.aF gN.Y.blk;unfold bI at aC;dsimp only at aC;go_wp2_with fail;refine(HNS.Y _ _ _ _ gN.Y).mono ?_;rintro e b ⟨rfl,a⟩;have HX:=ae a;clear a;go_wp2_with fail;refine bodyPost_ret (v:=.tuple #[]) (by simp[results,results105,go_sem]) rfl ?_;rw[iY.Y];exact cW.then rW.Y ⟨rfl,HX.Y⟩):P:=h
theorem ab7(h:P:=by
 rintro b (h|h|h|h|h|h|h)
 .exact .inl (.inl h)
 .exact .inl (.inr (.inl h))
 .exact .inl (.inr (.inr (.inl h)))
 .exact(hf b h).imp (λh=>(.inr (.inr (.inr (.inl h))))) id
 .exact .inl (.inr (.inr (.inr (.inr (.inl h)))))
 .exact .inl (.inr (.inr (.inr (.inr (.inr (.inl h))))))
 .exact .inl (.inr (.inr (.inr (.inr (.inr (.inr h))))))):P:=h
theorem ace(h:P:=by
 go_wp2_with fail;refine(HM _ _ _ _ _ H2.Y rfl rfl rfl rfl rfl).mono ?_;rintro e b ⟨rfl,a⟩;have HX:=ae a;clear a;go_wp2_with fail;refine bodyPost_ret (v:=.tuple #[]) (by simp[results,results106,go_sem]) rfl ?_;rw[iY.Y];exact cW.then (HF.Y.trans oU.Y) ⟨rfl,HX.Y⟩):P:=h
theorem abX(h:P:=by
 clear h5;go_wp2_with fail;rw[iY.Y];refine bodyPost_ret (v:=.tuple #[]) (by simp[results,results105,go_sem]) rfl ?_;refine cW.then vE.Y ?_;exact cW.leaf H7.Y {s with ar:=⟨A5,c5⟩} o {H7.Y.tk with} H7.Y.op rfl):P:=h
theorem abU(h:P:=by
 go_wp2_with fail;refine(HOW.Y _ mC ?_).mono ?_
 .exact RN.leaf HR.Y s o {HR.Y.tk with} HR.Y.op rfl
 .rintro e b ⟨rfl,a⟩;have HX:=ae a;clear a;go_wp2_with fail;go_end0;refine cW.then HF.Y (cW.after ⟨rfl,HX.Y⟩ ?_);exact WW):P:=h
theorem Xm(h:P:=by
 clear hC fC eJ aT bb;obtain⟨aC,bC,bb⟩:=ag.aF HR.Y.blk;unfold bI at aC;go_wp2_with fail;go_end0;refine cW.then HF.Y ?_;exact cW.leaf HR.Y s o {HR.Y.tk with} HR.Y.op rfl):P:=h
theorem Xk(h:P:=by
 go_wp2_with fail;go_quiet(fail);go_wp2_with fail;go_end0;rw[iY.Y];exact⟨rfl,_,_,_,HR.Y.more (bZ (ai _) _),HF.Y.trans (cP.ext (bZ (ai _) _) p mC)⟩):P:=h
theorem XK(h:P:=by
 go_wp2_with fail;refine HC.Y.mono ?_;rintro r b ⟨rfl,a⟩;have HE:=ae a;clear a;go_wp2_with fail;go_ret;rw[HD1.Y];exact⟨rfl,q,bM q,HE.Y.ahead br.Y⟩):P:=h
theorem Xn(h:P:=by
 obtain⟨aC,bC,bb⟩:=ag.aF HR.Y.blk;unfold bI at aC;go_wp2_with fail;go_end0;exact⟨rfl,_,_,_,HR.Y,HF.Y⟩):P:=h
theorem XL(h:P:=by
 rw[uO.Y];repeat(with_reducible first|(refine ag.newAt _ _ _ ?_;simp;done)|refine ag.dr ?_|refine ag.alloc ?_ _)):P:=h
theorem XC(h:P:=by
 unfold Mo.eu at h ⊢;dsimp only at h ⊢;split
 .rfl
 .rename_i h1;rw[au h1]at h;exact absurd rfl h):P:=h
theorem Xv(h:P:=by
 simp only[Sem.run_bind,asAddr,Sem.run_pure,Result.andThen_ok,l1,map_eq_pure_bind,bind_assoc,pure_bind];rfl):P:=h
theorem Rl(h:P:=by
 dsimp only at ha;subst ha;have:=bk h1 (g:=ad.block) rfl;omega):P:=h
theorem gG(h:P:=by
 kernel_rfl):P:=h
theorem aca(h:P:=by
 first|rfl|trivial):P:=h
theorem nT{P:Program}{e:Region.Mode}{c:Array Oper}{Q:Exit->Act->World->Prop}{S:World->Prop}{listed:Array Bool}{a:Act}{w:World}{n:Nat}(h:Q .normal a w)(f:Region.ready e c listed=[]:=by kernel_rfl):wpAnyH P e c Q S n listed a w:=wpAnyH_done f h n
theorem Xa(h:P:=by
 clear g;go_upto_region 12 with fail
 have lW:cN (wr.alloc (.cells #[x.gen,x.cap,x.used,x.closed,.slice Bv bl dv] 50)) dF (some ⟨wr,0,none⟩) [Ss x Bv dv]:=by rw[fW.Y];exact Rd.lit wr (Ss x Bv dv).val _
 go_wp2_with(at_builtin;refine bR _ rfl _ _ 41 rfl w 50 5 48 (.agg #[oZ,oZ,false,false,oN]) dF bY eU underlying41 m8 rfl (by decide) _ rows rfl (R2.Y.alloc _) _ 1 1 [Ss x Bv dv] rfl rfl lW (by simp;omega) (by simp;omega) (by have:=H'.Y.ext.size;simp;omega) ?_)
 intro f e a b _;obtain⟨hA,hS,hK6⟩:=H'.Y.UG R1.Y R2.Y R3.Y (d:=dv) (by rw[<-fW.Y];exact ZA.Y) Le.Y a b;obtain⟨B6,d6,hv6⟩:=a.shape;rw[fM,iw,iX]at hv6;subst hv6;obtain⟨HA,K17,K27⟩:=aS hA (hS _ _ _ (by decide) (by have:=HGW.Y;omega) K1w.Y) (hS _ _ _ (by decide) (by have:=HGW.Y;omega) (K2.Y.ah HB.Y));obtain⟨hch6,hfh6,hgh6⟩:=ag.aF hK6;clear hA hS hK6 a b aT hgx hch hfh rX hcc fE;go_upto_region 13 with fail
 generalize e.setCell ⟨gh,1,none⟩ (.slice B6 (j+1) d6)=w7 at *;obtain⟨hcc,-,fE⟩:=ag.aF K17.Y;clear hch6 hfh6 hgh6;go_wp2_with fail;go_roundw;case rel=>exact⟨j+1,P2,_,by omega,rfl,by go_num,by unfold Hid;rw[xy.Y,HP.Y,Nat.mul_succ];omega,by unfold Hid;rw[lN, <-Su.Y,List.drop_drop,show 1+(1+c.cap.toNat)*j=p from HP.Y.symm, <-tz.Y, <-HX.Y];exact HA.Y,K17,K27⟩
 case measure=>simp[intOf];omega):P:=h
theorem Xb(h:P:=by
 clear g;go_upto_region 24 with fail
 have lW:cN (wr.alloc (.cells #[x.on,x.ak,x.seq,.slice Bv bl dv] 99)) dF (some ⟨wr,0,none⟩) [QB x Bv dv]:=by rw[fW.Y];exact Rd.lit wr (QB x Bv dv).val _
 go_wp2_with(at_builtin;refine bR _ rfl _ _ 42 rfl w 99 4 48 (.agg #[false,oZ,oZ,oN]) dF bY eU underlying42 na rfl (by decide) _ rows rfl (R2.Y.alloc _) _ 1 1 [QB x Bv dv] rfl rfl lW (by simp;omega) (by simp;omega) (by have:=H'.Y.ext.size;simp;omega) ?_)
 intro e c a b _;obtain⟨hA,hS,hK6⟩:=H'.Y.Zh R1.Y R2.Y R3.Y (d:=dv) (by rw[<-fW.Y];exact ZA.Y) Le.Y a b;obtain⟨B6,d6,hv6⟩:=a.shape;rw[fM,iw,iX]at hv6;subst hv6;obtain⟨HA,K17,K27⟩:=aS hA (hS _ _ _ (by decide) (by have:=HGW.Y;omega) K1w.Y) (hS _ _ _ (by decide) (by have:=HGW.Y;omega) (K2.Y.ah HB.Y));obtain⟨hch6,hfh6,hgh6⟩:=ag.aF hK6;clear hA hS hK6 a b aT hgx hch hfh rX;go_upto_region 25 with fail
 generalize c.setCell ⟨gh,2,none⟩ (.slice B6 (j+1) d6)=w7 at *;clear hch6 hfh6 hgh6;go_wp2_with fail;go_roundw;case rel=>exact⟨j+1,P2,_,by omega,rfl,by go_num,by unfold Hid;rw[xy.Y,HP.Y];omega,by unfold Hid;rw[lN, <-Su.Y,List.drop_drop,show p+4*j=p2 from HP.Y.symm, <-tz.Y, <-HX.Y];exact HA.Y,K17,K27⟩
 case measure=>simp[intOf];omega):P:=h
theorem RD(h:P:=by
 obtain⟨aC,bC,bb⟩:=ag.aF gN.blk;unfold bI at aC;dsimp only at aC;have kK:=HI.1;have hi2:=HI.2;go_upto_region 12 with fail
 clear aC bC bb;have hH4:RN (w3.setCell ⟨p,9,none⟩ (.int .i64 (r.k.i+1))) X p c A n k t mC (q+1) {r with k:={r.k with all:=a,i:=r.k.i+1}} s o:=RN.leaf gN s o {gN.tk with} gN.op rfl;obtain⟨H4,FH4⟩:=av hH4 (((gv.refl w3 p).set 9 (.int .i64 (r.k.i+1))).fr mC);clear hH4;generalize(w3.setCell ⟨p,9,none⟩ (.int .i64 (r.k.i+1)))=w4 at *;have xb:=ae (rW.trans FH4);obtain⟨aC,bC,bb⟩:=ag.aF H4.blk;unfold bI at aC;dsimp only at aC;by_cases hlt:r.k.i+1<c.threads
 .go_wp2_with fail;go_quiet(fail);go_wp2_with fail;refine bodyPost_ret (v:=.tuple #[]) (by simp[results,results110,go_sem]) rfl ?_;rw[HE.Y,ay hlt];exact⟨rfl,_,_,_,H4.more (bZ (ai _) _),xb.trans (cP.ext (bZ (ai _) _) p mC)⟩
 .go_wp2_with fail;go_quiet(fail);cases a
  all_goals
   go_wp2_with fail;first
    |go_end0
    |refine bodyPost_ret (v:=.tuple #[]) (by simp[results,results110,go_sem]) rfl ?_
   rw[HE.Y,au aa];refine cW.then xb ?_;exact cW.leaf H4 {s with se:=eE} o {H4.tk with se:=dL.nil _ _ _ _,ls:=aZ _} H4.op rfl):P:=h
theorem Xf(h:P:=by
 have hb:=ah hb2 (aj (ai w2) (.cells #[ge,cp,true,cl,.slice B1 bl d1,.slice A2 n c2,oZ,oZ,oZ,oZ,oN] 159));have e:bl=bf.length:=fW.Y;have k:=ag.new w2 159 #[ge,cp,true,cl,.slice B1 bl d1,.slice A2 n c2,oZ,oZ,oZ,oZ,oN];have o:=aK.ah iU.Y hb;refine⟨⟨bM _,(ik.Y.ah hb2).lt⟩,ah br.Y hb,?_,ik.Y.ah hb,?_,iQ.ext (gA.bL br.Y.size) (aj (ai w2) _),aH.nil _ _ _ _ _⟩
 .show ag _ _ _ (jh ⟨⟨ge,cp,true,cl,bf⟩,xs,Mo.cE,[]⟩ n B1 bf.length d1 A2 c2 none 0 0).toArray;rw[<-e];exact k
 .show aK _ _ _ _ (.slice B1 bf.length d1) bf;rw[<-e];exact o):P:=h
theorem Xd(h:P:=by
 go_wp2_with fail;go_quiet(fail);clear cU eB q0 q1;go_wp2_with(at_builtin;refine bS _ rfl _ _ 22 rfl w2 3 .i64 underlying22 dI _ (dD N) rfl (aK.alloc eN _) (some ⟨wr,0,none⟩) 1 1 [(y:Int)] rfl rfl (bD.one _ .i64 _ _) ?c4 ?c6 ?_)
 case c4=>rw[dR, <-HP.Y];simp;omega
 case c6=>have:=bB.size;simp;omega
 intro c d b a _;obtain⟨B4,d4,rfl,CX,j7,fh⟩:=ur (wr:=wr.drewN _) HP.Y eN (bZ bB _) b a;clear b a;go_wp2;go_roundw;case rel=>exact⟨j+1,_,_,_,B4,d4,by omega,by go_num,rfl,rfl,CX,HSB,j7,fh⟩
 case measure=>simp[intOf];omega):P:=h
theorem Rz(h:P:=by
 dsimp only at aC;cases nd
 .skip;go_wp2_with fail;go_fit (HSC.Y _ Ab.Y);rintro e b ⟨rfl,(a:Hid _)⟩;go_wp2_with fail;refine bodyPost_ret (v:=.tuple #[]) (by simp[results,results110,go_sem]) rfl ?_;rw[HE.Y,ay (by first|rfl|trivial)];exact cW.then Xl.Y ⟨rfl,a.Y⟩
 .go_wp2_with fail;refine bodyPost_ret (v:=.tuple #[]) (by simp[results,results110,go_sem]) rfl ?_;rw[HE.Y,au (by first|decide|(intro h;cases h))];exact⟨rfl,_,_,_,Ab.Y,Xl.Y⟩):P:=h
theorem Xg(h:P:=by
 clear bN cj cu vB qT;generalize w5.setCell ⟨q,8,none⟩ (.int .i64 9)=w6 at *;obtain⟨bN,cj,cu⟩:=ag.aF H5.Y.kq;dsimp only[jh,Mo.bg,Mo.cE]at bN;obtain⟨gB,nQ,hgr⟩:=ag.aF H5.Y.kr;go_wp2_with fail;clear bN cj cu gB nQ hgr;rw[HG.Y];exact H5.Y.yY _ 10 (by kernel_rfl) rfl rfl):P:=h
theorem RA(h:P:=by
 apply RN.at_ (s':=s) (o':=o) HR;case hA=>exact WW
 case hK=>(with_reducible(repeat(first|apply ag.bp|apply ag.drewN|apply ag.jd|apply ag.alloc|exact HR.Y.blk)))
 case he=>rw[SH];rfl
 case hL=>rfl
 case tk=>exact{HR.tk with}
 case op=>exact HR.op):P:=h
theorem Xh(h:P:=by
 obtain⟨bN,cj,cu⟩:=ag.aF H8.Y.kq;dsimp only[jh]at bN;obtain⟨gB,nQ,hgr⟩:=ag.aF H8.Y.kr;go_wp2_with fail;clear bN cj cu gB nQ hgr;rw[HG.Y];exact H8.Y.yY _ 10 (by kernel_rfl) rfl rfl):P:=h
theorem W9(h:P:=by
 go_wp2_with fail;go_roundw;case rel=>exact⟨q+1,_,by omega,by go_num,nJ,K6,Ec⟩
 case measure=>simp[intOf];omega):P:=h
theorem E9(h:P:=by
 rw[hp',nK];dsimp only;rw[<-HN.Y];exact h):P:=h
end Go.Proofs.YtpfbfhfcbdbglaaGreat
