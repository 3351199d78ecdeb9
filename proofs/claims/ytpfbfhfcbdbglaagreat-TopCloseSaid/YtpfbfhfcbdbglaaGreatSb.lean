/- Walks and plain facts. No condition. -/
import Derived.Test.YtpfbfhfcbdbglaaGreatSa
import Derived.Deep.DrawnRows
import Derived.Deep.RegionHeld3
import Derived.Deep.RegionLaw
import Derived.RegionTactic
namespace Go.Proofs.YtpfbfhfcbdbglaaGreat
open Go.RowKit Go.Proofs.Tryz
set_option maxHeartbeats 8000000
set_option maxRecDepth 100000
set_option linter.all false
variable{P:Prop}
theorem Nr(h:P:=by
 go_wp2_with fail;go_ret;exact JF.no (by rw[HE.Y];simp) HB.Y):P:=h
theorem mk9(h:P:=by
 go_wp2_with fail;refine HF.Y.mono ?_;rintro e b ⟨rfl,a⟩;have HB:=ae (ah (aj (ai w) (dB c A n k)) a);clear a;go_wp2_with fail;go_ret;exact⟨rfl,HB.Y⟩):P:=h
theorem PS(h:P:=by
 rw[wg.Y];exact⟨rfl,⟨_,_,Aj⟩,kN,Ak⟩):P:=h
theorem TE(h:P:=by
 go_enter func213,ntmps213;go_wp2_with fail;go_ret;exact⟨rfl,p6.Y⟩):P:=h
theorem Lh(h:P:=by
 go_wp2;go_ret;exact⟨rfl,aj (ai w) _⟩):P:=h
theorem Ya(h:P:=by
 go_enter func179,ntmps179;go_wp2_with fail;refine V5.Y.mono ?_;rintro e b ⟨rfl,a⟩;have qi:=eW.Y.ah a;have oD:=eZ.Y.ah a;obtain⟨hc0,-,hz0⟩:=ag.aF qi;obtain⟨hc1,-,hz1⟩:=ag.aF oD;have HK:=ae qi;have br:=ae (ah p6.Y a);clear a qi oD;go_wp2_with fail;refine(TF.Y b).mono ?_;rintro e c ⟨rfl,rfl⟩;go_wp2_with fail;go_ret;exact⟨by simp,br.Y⟩):P:=h
theorem X9(h:P:=by
 go_enter func210,ntmps210;go_wp2_with fail;refine vM.Y.mono ?_;rintro e b ⟨rfl,rfl⟩;go_wp2_with fail;refine zv.Y.mono ?_;rintro e b ⟨rfl,rfl⟩;go_wp2_with fail;refine HV.Y.mono ?_;rintro e b ⟨rfl,a⟩;have HB:=ae (p6.Y.trans (a.mono (by simp;omega)));have hk:=HK.Y.ah a;obtain⟨hc,-,hzz⟩:=ag.aF hk;clear a hk;go_wp2_with fail;go_ret;exact⟨rfl,HB.Y⟩):P:=h
theorem Yz(h:P:=by
 go_enter func287,ntmps287;go_wp2_with fail;(with_reducible refine(HZ.Y _).mono ?_);rintro e a ⟨rfl,rfl⟩;go_wp2_with fail;(with_reducible refine(HZ.Y _).mono ?_);rintro e a ⟨rfl,rfl⟩;go_wp2_with fail;go_ret;exact⟨rfl,rfl⟩):P:=h
theorem YP(h:P:=by
 go_enter func267,ntmps267;go_wp2_with fail;(with_reducible refine(Cn.Y _).mono ?_);rintro e a ⟨rfl,rfl⟩;go_wp2_with fail;go_ret2;exact⟨rfl,bJ.Y⟩):P:=h
theorem YS(h:P:=by
 go_wp2_with fail;refine HD.Y.mono ?_;rintro e b ⟨rfl,a⟩;have HN:=ae ((a.back HB.Y pD));clear a;go_wp2_with fail;go_ret2;exact⟨rfl,HN.Y.more _⟩):P:=h
theorem X8(h:P:=by
 go_wp2_with fail;refine HI.Y.mono ?_;rintro e b ⟨rfl,a⟩;have br:=ae a;clear a;go_wp2_with fail;go_ret;rw[HA.Y];exact⟨rfl,br.Y⟩):P:=h
theorem Yt(h:P:=by
 clear h1;subst hr;go_enter func201,ntmps201;go_wp2;go_ret;exact⟨rfl,aj (ai w) _⟩):P:=h
theorem YQ(h:P:=by
 rintro rfl;have:=H.blk;unfold ag at this;rw[hg]at this;injection this with this
 injection this with _ h _
 first|exact absurd h (by decide)|exact H.ty.2.2.1 h|exact H.ty.2.2.2.2.1 h):P:=h
theorem YU(h:P:=by
 exact FB.b9 (by intro x a;cases a) (.inl (by show(0:Int)<8;decide))):P:=h
theorem YR(h:P:=by
 simp[results,results258,go_sem,fy]):P:=h
theorem YV(h:P:=by
 exact FB.b9 F.cs (.inr (by show(12:Int)<r.k.pc;omega))):P:=h
theorem aaH(h:P:=by
 skip;go_enter func179,ntmps179;go_wp2_with fail;refine V5.Y.mono ?_;rintro e d ⟨rfl,a⟩;have qi:=eW.Y.ah a;have oD:=eZ.Y.ah a;obtain⟨hc0,-,hz0⟩:=ag.aF qi;obtain⟨hc1,-,hz1⟩:=ag.aF oD;have HK:=ae qi;have br:=ae (ah p6.Y a);clear a qi oD;go_wp2_with fail;refine(TF.Y d).mono ?_;rintro e g ⟨rfl,rfl⟩;go_wp2_with fail;refine(HD.Y d br.Y).mono ?_;rintro e b ⟨rfl,a⟩;have DG:∀i,b.cell? ⟨w.heap.size,i,none⟩=_:=λi=>(a.cell (p:=⟨w.heap.size,i,none⟩) hz0).trans (hc0 i);have Aa:∀i,b.cell? ⟨w.heap.size+1,i,none⟩=_:=λi=>(a.cell (p:=⟨w.heap.size+1,i,none⟩) hz1).trans (hc1 i);have HK:=ae (HK.Y.ah a);have hz0:=bW hz0 a.size;have hz1:=bW hz1 a.size;have bB:=ae (ah br.Y a);clear a hc0 hc1;have hc0:=DG;have hc1:=Aa;clear DG Aa;go_wp2_with fail;refine(HFC.Y b bB.Y HK.Y).mono ?_;rintro e c ⟨rfl,a⟩;have O1:∀i,c.cell? ⟨w.heap.size,i,none⟩=_:=λi=>(a.cell (p:=⟨w.heap.size,i,none⟩) hz0).trans (hc0 i);have O2:∀i,c.cell? ⟨w.heap.size+1,i,none⟩=_:=λi=>(a.cell (p:=⟨w.heap.size+1,i,none⟩) hz1).trans (hc1 i);have HK:=ae (HK.Y.ah a);have hz0:=bW hz0 a.size;have hz1:=bW hz1 a.size;have bU:=ae (ah bB.Y a);clear a hc0 hc1;have hc0:=O1;have hc1:=O2;clear O1 O2;go_wp2_with fail;refine(HFW.Y c bU.Y).mono ?_;rintro e f ⟨rfl,a⟩;have acv:∀i,f.cell? ⟨w.heap.size,i,none⟩=_:=λi=>(a.cell (p:=⟨w.heap.size,i,none⟩) hz0).trans (hc0 i);have acw:∀i,f.cell? ⟨w.heap.size+1,i,none⟩=_:=λi=>(a.cell (p:=⟨w.heap.size+1,i,none⟩) hz1).trans (hc1 i);have HK:=ae (HK.Y.ah a);have hz0:=bW hz0 a.size;have hz1:=bW hz1 a.size;have fh:=ae (ah bU.Y a);clear a hc0 hc1;have hc0:=acv;have hc1:=acw;clear acv acw;go_wp2_with fail;go_ret;exact⟨by simp,fh.Y⟩):P:=h
theorem adt(h:P:=by
 obtain⟨k,hk,rfl,HX⟩:=hrel;by_cases hlt:k<n
 .obtain⟨ad,z,hA,hz,hc⟩:=bD.at_ HR.Y (i:=k) (by rw[<-HN.Y];exact hlt);subst hA;have HZ:=ae hz;clear hz;rcases hp:(v==z)with _|_
  .have HP:Hid ((λx=>v==x) z=false):=hp;go_wp2_with fail;go_round;case rel=>exact⟨k+1,by omega,by go_num,qw HZ.Y HX.Y HP.Y⟩
   case measure=>simp[intOf];omega
  .have HP:Hid ((λx=>v==x) z=true):=hp;go_wp2_with fail;go_ret;rw[xf HZ.Y HX.Y HP.Y];exact⟨rfl,rfl⟩
 .go_wp2_with fail;go_ret;rw[F0 HN.Y hlt HX.Y];exact⟨rfl,rfl⟩):P:=h
theorem aaY(h:P:=by
 go_wp2_with fail;go_loopw[7,8] (λa b wr=>a=.int .i64 0/\b=.int .i64 20/\Hid (wr=w)) (λ_ _ _=>0);case atStart=>exact⟨rfl,rfl,rfl⟩
 case round =>
  obtain⟨rfl,rfl,HW⟩:=hrel;have hw:=HW.Y;subst hw;go_wp2_with fail;(with_reducible refine HI.Y.mono ?_);rintro e d ⟨rfl,c⟩;have HS:=ae c;clear c;go_wp2_with fail;go_loopw[6] (λa wq=>a=.int .i64 20/\Hid (wq=d)) (λ_ _=>0);case atStart=>exact⟨rfl,rfl⟩
  case round =>
   obtain⟨rfl,lW⟩:=hrel;have hw:=lW.Y;subst hw;go_wp2_with fail;go_end0;exact⟨rfl,HS.Y⟩):P:=h
theorem abk(h:P:=by
 go_enter func195,ntmps195;go_wp2_with fail;refine HMY.Y.mono ?_;rintro e a ⟨rfl,rfl⟩;go_wp2_with fail;go_quiet(fail);go_wp2_with fail;refine bodyPost_ret (v:=?_) ?_ rfl ?_;rotate_left
 .simp[results,results195,go_sem];rfl
 .exact⟨rfl,sB (bZ (aj (aj (ai _) _) _) _) (by simp) (.int .i64 0) (.int .i64 0) (.int .i64 0) (.int .u64 0) (.int .u64 0) (.int .u64 0) false⟩):P:=h
theorem YC(h:P:=by
 clear hf hb1;obtain⟨cU,hfk,-⟩:=ag.aF eZ.Y;have eB:=ag.lt eZ.Y;rcases kR:cl with _|_
 .rw[kR]at cU;rcases ok with _|_
  .go_wp2_with fail;go_ret;refine⟨bK ?_,br.Y⟩;rw[HR.Y,kR, <-Ba.Y];simp
  .go_wp2_with fail;go_ret;refine⟨bK ?_,br.Y⟩;rw[HR.Y,kR, <-Ba.Y];simp
 .rw[kR]at cU;go_wp2_with fail;go_ret;refine⟨bK ?_,br.Y⟩;rw[HR.Y,kR];simp):P:=h
theorem aaI(h:P:=by
 intro c d hown' b a;have Yb:=ae (HGR.Y.step (aj (ai wr) _) b (by simpa using a));have hb2:=(HO.Y.alloc _).aW (HB.Y.alloc (by omega) _) b (by simp;omega) (aR _);have BP:=ae hown';have O5:=ae hb2;clear hown' b hb2 a;go_wp2;go_roundw;case rel=>exact⟨k+1,by omega,by go_num,by rw[HE.Y];exact BP.Y,O5.Y,Yb.Y⟩
 case measure=>simp[intOf];omega):P:=h
theorem aaG(h:P:=by
 clear hk;go_enter func178,ntmps178;go_wp2_with fail;refine HC.Y.mono ?_;rintro e b ⟨rfl,a⟩;have hc:∀i,b.cell? ⟨w.heap.size,i,none⟩=_:=λi=>a.cell (p:=⟨w.heap.size,i,none⟩) (by simp);have HB:=ae (Below.trans (aj (ai w) (dB c A n k)) (a.mono (by simp)));clear a;go_wp2_with fail;go_ret;rw[HS.Y];exact⟨rfl,HB.Y⟩):P:=h
theorem aaN(h:P:=by
 rw[eM h];have hk:=bT h;by_cases h1:(k:Int)<s
 .have hlk:(l.take k).length=k:=by rw[fK];omega
  rw[ay h1,List.take_of_length_le (l:=l.take k++[z]) (by rw[fM,hlk];simp;omega),List.take_of_length_le (l:=l.take k) (by omega),List.map_append];rfl
 .rw[au h1,List.append_nil,List.take_append_of_le_length (by rw[fK];omega)]):P:=h
theorem aaR(h:P:=by
 intro b a _;have:(Value.slice B2 bl d2).ownBlock=some b.block:=by rw[a];rfl
 have:=bk Wa this;refine⟨by omega,?_⟩;subst a;rcases Wa.2 with⟨h',_⟩|⟨g',cap,cur,hv,_,hh,_⟩
 .cases h'
 .injection hv with q1;injection q1 with q1;subst q1;exact⟨cur,_,hh⟩):P:=h
theorem abg(h:P:=by
 clear aC;go_enter func258,ntmps258;go_wp2_with fail;refine bodyPost_ret (v:=.agg #[.int .i64 0,.int .i64 0,.int .i64 1,.int .i64 0]) ?_ rfl kL;simp[results,results258,go_sem]):P:=h
theorem aaZ(h:P:=by
 go_wp2_with fail;go_loopw[8] (λa wr=>a=.int .i64 1/\Hid (wr=w)) (λ_ _=>0);case atStart=>exact⟨rfl,rfl⟩
 case round =>
  obtain⟨rfl,HW⟩:=hrel;have hw:=HW.Y;subst hw;go_wp2_with fail;go_end0;exact⟨rfl,rfl⟩):P:=h
theorem acQ(h:P:=by
 have hz0:=bW hz0 hb.size;have hz1:=bW hz1 hb.size;have bB:=ae (ah br.Y hb);clear hb hc0 hc1;have hc0:=DG;have hc1:=Aa;clear DG Aa;go_wp2_with fail;go_ret;exact⟨by simp,bB.Y⟩):P:=h
theorem abd(h:P:=by
 clear hu hg;go_enter func267,ntmps267;go_wp2_with fail;(with_reducible refine(Cn.Y _).mono ?_);rintro e a ⟨rfl,rfl⟩;go_wp2_with fail;go_ret2;exact⟨rfl,bJ.Y⟩):P:=h
theorem Wn(h:P:=by
 go_wp2_with fail;go_end0;have hs:=HS.Y;have rz:D.length<=k:=by have:=HN.Y;omega
 rw[List.take_of_length_le rz,List.drop_of_length_le rz,List.append_nil]at hs;exact⟨rfl,hs⟩):P:=h
theorem aaK(h:P:=by
 go_wp2_with fail;refine HF.Y.mono ?_;rintro e b ⟨rfl,a⟩;have HB:=ae (ah p6.Y a);clear a;go_wp2_with fail;go_ret;exact⟨none,0,rfl,aK.nil _ _ _ _,HB.Y⟩):P:=h
theorem V0(h:P:=by
 go_wp2_with fail;refine vM.Y.mono ?_;rintro e a ⟨rfl,rfl⟩;go_wp2_with fail;refine zv.Y.mono ?_;rintro e a ⟨rfl,rfl⟩;go_wp2_with fail;go_ret;exact⟨rfl,p6.Y⟩):P:=h
theorem V4(h:P:=by
 go_wp2_with fail;refine HC.Y.mono ?_;rintro e b ⟨rfl,a⟩;have HB:=ae (ah (aj (ai w) _) a);clear a;go_wp2_with fail;go_ret;exact⟨rfl,HB.Y⟩):P:=h
theorem Wo(h:P:=by
 go_wp2_with fail;(with_reducible refine HI.Y.mono ?_);rintro e b ⟨rfl,a⟩;have HS:=ae a;clear a;go_wp2_with fail;go_end0;exact⟨rfl,HS.Y⟩):P:=h
theorem Wd(h:P:=by
 rcases h.2 with⟨h',_⟩|⟨g',cap,cur,hv,_,hh,_⟩
 .cases h'
 .injection hv with h1;injection h1 with h1;subst h1
  exact⟨cur,_,hh⟩):P:=h
theorem Wb(h:P:=by
 intro c d b a h;have e:=λi=>a.cell (p:=⟨w.heap.size,i,none⟩) b;rw[e 0,e 1,e 2,e 3,e 4,e 5,e 6,e 7,e 8,e 9,e 10];exact h):P:=h
theorem Wi(h:P:=by
 subst hb;go_enter func200,ntmps200;go_wp2;go_ret;exact⟨bK (by simp<;>omega),rfl⟩):P:=h
theorem VY(h:P:=by
 go_wp2_with fail;refine HH.Y.mono ?_;rintro e b ⟨rfl,a⟩;have HB:=ae a;clear a;go_wp2_with fail;go_ret;exact⟨by simp,HB.Y⟩):P:=h
theorem Wk(h:P:=by
 go_enter func163,ntmps163;go_wp2_with fail;go_ret;exact⟨rfl,aj (ai w) _⟩):P:=h
theorem Wh(h:P:=by
 go_wp2_with fail;refine HI.Y.mono ?_;rintro e a ⟨rfl,rfl⟩;go_wp2_with fail;go_ret;rw[HA.Y,Cb];exact⟨rfl,rfl⟩):P:=h
theorem Wu(h:P:=by
 subst hr;go_enter func268,ntmps268;go_wp2_with fail;go_ret;exact⟨rfl,bJ.Y⟩):P:=h
theorem WC(h:P:=by
 split
 .exact FB.b9 h (.inr (by show(12:Int)<24;decide))
 .exact FB.b9 h (.inr (by show(12:Int)<28;decide))):P:=h
theorem VZ(h:P:=by
 go_wp2_with fail;refine vM.Y.mono ?_;rintro e a ⟨rfl,rfl⟩;go_wp2_with fail;go_ret;exact⟨rfl,p6.Y⟩):P:=h
theorem Wj(h:P:=by
 go_enter func200,ntmps200;go_wp2;go_ret;exact⟨rfl,rfl⟩):P:=h
theorem WB(h:P:=by
 unfold Ko at k6;simp[results,results195,go_sem,k0,k1,k2,k3,k4,k5,k6];rfl):P:=h
theorem Bg(h:P:=by
 first|(simp;done)|(simp;omega)):P:=h
theorem ui(h:P:=by
 simp;omega):P:=h
theorem wk(h:P:=by
 first|(simp;done)|(simp;omega)|omega):P:=h
theorem Ws(h:P:=by
 clear uz;go_wp2_with fail;go_fit (abb _ bB);rintro e b a;obtain⟨B3,d3,A3,c3,D3,dd3,rfl,Nq,hb3⟩:=a.p;clear a;have uD:=gO.ah hb3;have hr3:=jw.ah hb3;have xi:=ah bB hb3;obtain⟨bN,cj,cu⟩:=ag.aF uD;obtain⟨gB,nQ,hgr⟩:=ag.aF hr3;obtain⟨Sf,iG,gN,bU⟩:=bh (Nq.bL bB.size) uD hr3 xi;clear Nq hb3 uD hr3 xi;go_wp2_with fail;obtain⟨TW,iB,Cg⟩:=o7.mk' (v1:=[g.c.gen,g.c.cap,g.c.used,g.c.closed,.slice B3 g.c.buf.length d3]) (v2:=[g.r.seq,g.r.cs,g.r.code,g.r.value]) iG gN aa rfl rfl;have hPz:=Sf.two TW;have kN:=TW.below rfl bU aa aa;change bodyPost _ _ _ _ _ (ax (ax b (w.heap.size+1) 0 [g.c.gen,g.c.cap,g.c.used,g.c.closed,.slice B3 g.c.buf.length d3]) (w.heap.size+1+1) 0 [g.r.seq,g.r.cs,g.r.code,g.r.value]);clear TW bN cj cu gB nQ hgr;generalize ax (ax b (w.heap.size+1) 0 [g.c.gen,g.c.cap,g.c.used,g.c.closed,.slice B3 g.c.buf.length d3]) (w.heap.size+1+1) 0 [g.r.seq,g.r.cs,g.r.code,g.r.value]=wz at *;have pJ:=λi=>ag.cell iB i;have sK:=λi=>ag.cell Cg i;refine bodyPost_ret (v:=.tuple #[.agg #[g.c.gen,g.c.cap,g.c.used,g.c.closed,.slice B3 g.c.buf.length d3],.slice A3 n c3,.agg #[g.r.seq,g.r.cs,g.r.code,g.r.value],.slice D3 g.told.length dd3]) ?_ rfl ?_
 .simp[results,results278,go_sem,pJ,sK]
 .rw[HG.Y];exact hPz.e kN):P:=h
theorem Ww(h:P:=by
 intro a;obtain⟨i',vJ,he⟩:=List.getElem_of_mem a;rw[fK]at vJ;have h1:(Mo.mi xs hd)[i']?=some t:=by rw[<-he,List.getElem_take];exact cq aa
 have h2:=(List.getElem?_inj (by have:=bT h1;omega) (Bb xs hd)).1 (h1.trans ht.symm);omega):P:=h
theorem Wf(h:P:=by
 go_wp2;go_loop[5,8] (λ_ i=>∃k:Nat,k<=n/\i=k/\Hid (∀(j:Nat) (y),j<k->xs[j]?=some y->(λx=>v==x) y=false)) (λ_ i=>n-(intOf i).toNat);case atStart=>exact⟨0,aZ _,rfl,λj _ h=>absurd h (Nat.not_lt_zero _)⟩
 case round =>
  exact adt):P:=h
theorem aaM(h:P:=by
 subst hX;obtain⟨i,kK,_,sZ,_⟩:=info_parts hi;have h0:0<=(m:Int)/\(m:Int)<=(n:Int):=aa;simp[Instr.slice,Instr.sliceBounds,run_underlying ht,sizeOf,typeInfo,kK,run_sliceBound_if,h0,sZ,nO]):P:=h
theorem We(h:P:=by
 go_ret2;refine⟨_,rfl,_,_,rfl,j6.put (y:=Mo.fU) (B:=none) (d:=0) iU (bT HX) (aR _) (cN.nil _ _ _) (λb hb=>by cases hb),az hg0 [false,.int .i64 0,.int .i64 0,.slice none 0 0] _ _ br⟩):P:=h
theorem uj(h:P:=by
 dsimp only;repeat' split
 all_goals simp only[YY,Qe,LX,Uj,LY,G1,Rn.store,Rn.pc,Rn.finish,Cp]
 all_goals(try(split<;>simp only[Cp]))):P:=h
theorem Wv(h:P:=by
 have h1:=xu xs hd xs.length;have h2:=congrArg List.length (Pv xs hd);rw[dR,jl,dR]at h2;have:=HN.Y;omega):P:=h
theorem Wp(h:P:=by
 go_enter func119,ntmps119;go_wp2;go_ret3;exact⟨rfl,rfl⟩):P:=h
theorem Ek(h:P:=by
 exact h.mono (ek _) aa aa aa):P:=h
end Go.Proofs.YtpfbfhfcbdbglaaGreat
