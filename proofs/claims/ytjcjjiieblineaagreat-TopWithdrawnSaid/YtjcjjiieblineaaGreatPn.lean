/- Walks and plain facts. No condition. -/
import Derived.Test.YtjcjjiieblineaaGreatPm
namespace Go.Proofs.YtjcjjiieblineaaGreat
open Go.RowKit Go.Proofs.Tryz
set_option maxHeartbeats 8000000
set_option maxRecDepth 100000
set_option linter.all false
variable {w w' w1 wr:World}{α β:Type}{base k m i b q m3 m1 n1 n3 p:Nat}{e:TypeId}{v u:Value}{S X S':Nat->Prop}{l L:List Int}{h:Mo.Hl}{A1 A3 B1:Option Addr}{r r':Mo.Rn}{arr:Array Value}{xs:List α}
theorem qG{α:Type}{f:List Int->α}{m:Nat}{x:α}:∀{n:Nat} {l:List Int},x∈Mo.pieces f m n l->∃q,x=f q
 |0,_,h=>by cases h
 |n+1,l,h=>by
  rw[Mo.pieces]at h
  rcases List.mem_cons.1 h with h|h
  ·exact⟨_,h⟩
  ·exact qG h
def abp(c:Mo.bH)(l:List Int)(w:World)(e:Ending)(w':World):Prop :=
 (∃h,Mo.oI c l=some h/\∃A1 A2 A3 m1 m2 m3,e=.returned (.tuple #[.agg #[h.ay,.slice A1 h.chans.length m1,.slice A2 h.waits.length m2,.slice A3 h.done.length m3],true])/\uJ w' w.heap.size h A1 A2 A3 h.chans.length h.waits.length h.done.length m1 m2 m3/\Below w w w') \/
 (Mo.oI c l=none/\e=.returned (.tuple #[.agg #[oZ,oN,oN,oN],false])/\Below w w w')
section
variable(w:World)
theorem JU{c:Mo.bH}(hc:Mo.aN c=true)(hk:c.kind=3){A:Option Addr}{n:Nat}(hn:n=c.start.length)(hr:bC w .i64 A c.start)(l:List Int)(D:Option Addr)(dl dd:Nat)(jk:dl=l.length)(lu:(l.length:Int)=Mo.aZ c)(kg:dl<=dd)(hu:Mo.eH l)(hD:bC w .u64 D l) :
 Calls prog 250 #[.agg #[c.kind,c.threads,c.chans,c.cap,c.nodes,c.aJ,c.aB,c.tags,c.bn,c.ba,.slice A n k],.slice D dl dd] w (abp c l w):=by
 have hp:=Mo.aG hc
 have hsz:=size_le hc
 have su:(c.chans.toNat:Int)=c.chans:=Int.toNat_of_nonneg hp.2.2.2.2.2.2.2.1
 have RG:(c.threads.toNat:Int)=c.threads:=Int.toNat_of_nonneg (by omega)
 have hsN:l.length=1+((1+c.cap.toNat)*c.chans.toNat+4*c.threads.toNat+c.threads.toNat):=by
  have h1:=lu;unfold Mo.aZ Mo.dm at h1;rw[ai (by rw[hc];decide),ai (by rw[hc];decide),au hk, <-su, <-RG]at h1;have h2:(c.cap.toNat:Int)=c.cap:=Int.toNat_of_nonneg hp.2.2.2.2.2.2.1.1;rw[<-h2]at h1;have h3:(((c.chans.toNat*(1+c.cap.toNat):Nat)):Int)=(c.chans.toNat:Int)*(1+(c.cap.toNat:Int)):=by push_cast;rfl
  rw[<-h3,Nat.mul_comm c.chans.toNat]at h1;omega
 have P5:=aa hsN
 have hl1:dl<=2000:=by omega
 have pd:=aa jk;have Eb:=aa lu;have HU:=aa hu;have HC:=aa hc;have HN:=aa hn;have zZ:=aa hr;have lB:=aa hD;have Px:=aa su;have P6:=aa RG;have HKK:=aa hk
 have pn:=aa (fun wx (hx:Below w w wx)=>fG wx hc hn (hr.below hx) (k:=k))
 have iq:=aa (fun wx (hx:Below w w wx)=>vY wx hc hn (hr.below hx) (k:=k))
 have b1:0<=c.chans:=hp.2.2.2.2.2.2.2.1
 have b2:c.chans<=8:=hp.2.2.2.2.2.2.2.2
 have b3:1<=c.threads:=hp.1.1
 have b4:c.threads<=64:=hp.1.2
 have dk:(c.kind !=3)=false:=by rw[hk];rfl
 have dz:((dl:Int) !=Mo.aZ c)=false:=by rw[jk,lu];simp
 clear hp hsz hsN lu hu hc hn hr hD hk su RG jk
 have bG:Hid (Below w w ((w.alloc (cr c A n k)).alloc yw)):=ak (ak (aj w) _) _
 have oh:Hid (af ((w.alloc (cr c A n k)).alloc yw) w.heap.size 24 #[c.kind,c.threads,c.chans,c.cap,c.nodes,c.aJ,c.aB,c.tags,c.bn,c.ba,.slice A n k]):=(af.new _ _ _).alloc _
 have pw:Hid (af ((w.alloc (cr c A n k)).alloc yw) (w.heap.size+1) 71 #[oZ,oN,oN,oN]):=(af.newAt _ _ _ (by simp))
 go_enter func250,ntmps250
 go_wp2_with fail
 refine(pn _ bG).mono ?_
 rintro e w1 ⟨rfl,hb1⟩
 have bj:=aa (ag bG hb1);have fh:=aa (oh.ag hb1);have gI:=aa (pw.ag hb1)
 clear hb1
 obtain⟨hcc,-,gH⟩:=af.aK fh
 go_wp2_with fail
 refine(iq _ bj).mono ?_
 rintro e w2 ⟨rfl,hb2⟩
 have bq:=aa (ag bj hb2);have jv:=aa (fh.ag hb2);have g9:=aa (gI.ag hb2)
 clear hb2 hcc gH
 obtain⟨hcc,-,gH⟩:=af.aK jv
 go_wp2_with fail
 have HA:Hid (iO (w2.alloc (.cells #[.slice D dl dd] 280)) (fun b=>b<w.heap.size) w2.heap.size l):=by exact abq
 have bZ:=aa (ak bq (.cells #[.slice D dl dd] 280));have qE:=aa (jv.alloc (.cells #[.slice D dl dd] 280));have fx:=aa (g9.alloc (.cells #[.slice D dl dd] 280))
 have hgr:w.heap.size+1<w2.heap.size:=g9.lt
 obtain⟨gr,hg⟩:∃gr,gr=w2.heap.size:=⟨_,rfl⟩
 rw[<-hg]at HA hgr ⊢
 clear hg hcc gH
 generalize(w2.alloc (.cells #[.slice D dl dd] 280))=w3 at *
 have hNX:=lD w3 HA (fun b hb=>by omega) (by have:=pd.out;omega)
 (with_reducible refine hNX.mono ?_)
 rintro e w4 ⟨rfl,hT⟩
 obtain⟨x0,hx0⟩:∃x0,x0=l.getD 0 0:=⟨_,rfl⟩
 have DB:=HU.at_ 0
 have hx1:Mo.ax l 0=x0:=hx0.symm
 rw[hx1]at DB
 unfold Mo.r9 at DB
 obtain⟨tk,Br⟩:∃tk,tk=x0%4294967296:=⟨_,rfl⟩
 have hand:bits BinOp.and IntKind.u64 x0 4294967295=tk:=by rw[Br];exact zC _ DB.1 DB.2
 have t0:0<=tk:=by omega
 have t1:tk<4294967296:=by omega
 have p6:Hid (tk=l.getD 0 0%4294967296):=by unfold Hid;rw[Br,hx0]
 rw[<-hx0]
 have ju:gr<w4.heap.size:=hT.1.lt
 have hk4:af w4 w.heap.size 24 #[c.kind,c.threads,c.chans,c.cap,c.nodes,c.aJ,c.aB,c.tags,c.bn,c.ba,.slice A n k]:=(hT.2.1 _ qE.lt (by omega)).trans qE
 have hr4:af w4 (w.heap.size+1) 71 #[oZ,oN,oN,oN]:=(hT.2.1 _ fx.lt (by omega)).trans fx
 have H0:Hid (tH c A n k w (w4.alloc (sB tk none 0 0 none 0 0 none 0 0)) (l.drop 1) tk oN oN oN [] [] [] gr w4.heap.size):=⟨hk4.alloc _,hr4.alloc _,hT.1.ext (fun b hb=>by omega) (ak (aj w4) _),af.new _ _ _,aH.nil _ _ _ _ _ _,aH.nil _ _ _ _ _ _,aI.nil _ _ _ _ _,(bZ.trans (hT.2.2.mono (by omega))).alloc (by omega) _,ju,hgr⟩
 clear hx0 DB hx1 Br hNX hT bG oh pw bj fh gI bq jv g9 bZ qE fx HA dz dk pn iq
 obtain⟨hcc,-,gH⟩:=af.aK hk4
 go_wp2_with fail
 clear hk4 hr4 hand hcc gH
 obtain⟨gh,WX⟩:∃gh,gh=w4.heap.size:=⟨_,rfl⟩
 rw[<-WX]at H0 ⊢
 generalize(w4.alloc (sB tk none 0 0 none 0 0 none 0 0))=wa at *
 clear WX ju
 go_loopw[34] (fun i wr=>∃(j:Nat) (v1:Value),j<=c.chans.toNat/\i=j/\Hid (tH c A n k w wr ((l.drop 1).drop ((1+c.cap.toNat)*j)) tk v1 oN oN (Mo.pieces (Mo.ky c) (1+c.cap.toNat) j (l.drop 1)) [] [] gr gh)) (fun i _=>c.chans.toNat-(intOf i).toNat)
 case atStart=>exact⟨0,_,aY _,rfl,by rw[Nat.mul_zero,List.drop_zero];exact H0.out⟩
 case round =>
  clear H0;obtain⟨j,v1,hj,rfl,H⟩:=hrel;by_cases hlt:(j:Int)<c.chans
  ·have Dv:j<c.chans.toNat:=by omega
   obtain⟨xs,G9⟩:∃xs,xs=Mo.pieces (Mo.ky c) (1+c.cap.toNat) j (l.drop 1):=⟨_,rfl⟩
   have Su:xs.length=j:=by rw[G9];exact jR _ _ _ _
   obtain⟨l1,wZ⟩:∃l1,l1=(l.drop 1).drop ((1+c.cap.toNat)*j):=⟨_,rfl⟩
   have hm:(1+c.cap.toNat)*j+(1+c.cap.toNat)<=(1+c.cap.toNat)*c.chans.toNat:=by rw[<-Nat.mul_succ];exact Nat.mul_le_mul_left _ Dv
   have Fj:(1+c.cap.toNat)<=l1.length/\l1.length<=100000:=by rw[wZ,gm,gm,P5.out];have:=P5.out;have:=pd.out;omega
   have UG:∀z∈l1,0<=z/\z<18446744073709551616:=fun z hz=>HU z (List.mem_of_mem_drop (List.mem_of_mem_drop (by rw[<-wZ];exact hz)));rw[<-G9, <-wZ]at H;obtain⟨A1,k1,xH⟩:=H.ch.shape;have wX:Below wr wr wr.drew:=(aj wr).drew;have Ha:∀b,b<w.heap.size->b<wr.drew.heap.size:=fun b hb=>by have:=H.kc.lt;show b<wr.heap.size;omega
   have hSr:∀b,b<w.heap.size->b≠gr:=fun b hb=>by have:=H.rg;omega
   have Fk:=I7 wr.drew HC (k:=k) (n:=n) (A:=A) (H.more wX).rd hSr Ha Fj.2 Fj.1 UG;obtain⟨x,hx⟩:∃x,x=Mo.ky c l1:=⟨_,rfl⟩
   rw[<-hx]at Fk;have GL:=aa Fk;have HX:=aa hx;have Za:=aa G9;have CF:=aa wZ;rw[Su]at xH;subst xH;obtain⟨hcc,-,gH⟩:=af.aK H.kc;obtain⟨hcb,-,hgb⟩:=af.aK H.kh;clear Fk hx G9 wZ Fj UG Ha hSr hm;go_wp2_with fail;go_region_law(first
    |(go_simp;go_at_call 259;(with_reducible refine GL.out.mono ?_);rintro e w5 ⟨B3,d3,rfl,Ub,hx3,Sv⟩;have CG:=(H.more wX).to Sv;have XA:=fun i=>af.cell CG.kh i;have XC:=fun i=>af.free CG.kh i;have XD:=CG.kh.lt;have Lr:=CG.ext.size;have hCH:=CG.ch;obtain⟨rows,q1,q2,q3⟩:=hCH;have ju:=q1.trans Su;have hrg3:=CG.rd.lt;have H3:=aa CG;have Q3:=aa q3;have X3:=aa hx3;clear CG q3 hx3 Sv;go_wp2_with fail)
    |(refine kP rfl _ _ 67 rfl (gr+1) 83 5 48 (.agg #[oZ,oZ,false,false,oN]) dR bQ fH underlying67 qm rfl (by decide) _ rows rfl ?_ w5.heap.size 1 1 [rwC x B3 d3] rfl rfl ?_ ?_ ?_ ?_ ?_;(exact q2.alloc _);(exact Rd.lit w5 (rwC x B3 d3).val _);(simp;omega);(simp;omega);(simp;omega);intro v4 w6 bX bg hzz;clear hzz;have hA:=H3.ac7 q1 q2 Q3 Ub X3 bX bg;obtain⟨A4,k4,hv4⟩:=bX.shape;rw[eN,gC,ju]at hv4;subst hv4;have HA:=aa hA;have G4:=H3.grown (row:=.slice A1 j k1) (fun b hb=>⟨(aX q2 hb).1,dV q2 b hb⟩) _ bg (by decide) (by decide) (by decide) 1 (.slice A4 (j+1) k4);have XE:=fun i=>af.cell G4.2.2.1 i;have XF:=fun i=>af.free G4.2.2.1 i;have XG:=G4.2.2.1.lt;clear hA G4 bX bg;go_wp2_with fail))
   all_goals
    have mS:tH c A n k w (w6.setCell ⟨gh,1,none⟩ (.slice A4 (j+1) k4)) ((l.drop 1).drop ((1+c.cap.toNat)*(j+1))) tk (.slice A4 (j+1) k4) oN oN (Mo.pieces (Mo.ky c) (1+c.cap.toNat) (j+1) (l.drop 1)) [] [] gr gh:=by rw[px, <-Za.out, <-CF.out, <-HX.out,Nat.mul_succ, <-List.drop_drop, <-CF.out];exact HA.out
    have HF:=aa mS;clear mS XE XF XG hcc hcb gH hgb XA XC XD;generalize w6.setCell ⟨gh,1,none⟩ (.slice A4 (j+1) k4)=w7 at *;exact UH
  ·have Dv:j=c.chans.toNat:=by omega
   subst Dv;have HB:=aa H;obtain⟨hcc,-,gH⟩:=af.aK HB.kc;clear H;go_wp2_with fail;clear hcc gH;obtain⟨vC,hvC⟩:∃vC,vC=v1:=⟨_,rfl⟩
   rw[<-hvC]at HB;clear hvC;go_loopw[47] (fun i wr=>∃(j:Nat) (v2:Value),j<=c.threads.toNat/\i=j/\Hid (tH c A n k w wr (((l.drop 1).drop ((1+c.cap.toNat)*c.chans.toNat)).drop (4*j)) tk vC v2 oN (Mo.pieces (Mo.ky c) (1+c.cap.toNat) c.chans.toNat (l.drop 1)) (Mo.pieces Mo.k9 4 j ((l.drop 1).drop ((1+c.cap.toNat)*c.chans.toNat))) [] gr gh)) (fun i _=>c.threads.toNat-(intOf i).toNat);case atStart=>exact⟨0,_,aY _,rfl,by rw[Nat.mul_zero,List.drop_zero];exact HB.out⟩
   case round =>
    clear HB;obtain⟨j,v2,hj,rfl,H⟩:=hrel;obtain⟨xs,G9⟩:∃xs,xs=(Mo.pieces (Mo.ky c) (1+c.cap.toNat) c.chans.toNat (l.drop 1)):=⟨_,rfl⟩
    have Za:=aa G9;rw[<-G9]at H;clear G9;by_cases hlt:(j:Int)<c.threads
    ·have Dv:j<c.threads.toNat:=by omega
     obtain⟨ys,KW⟩:∃ys,ys=Mo.pieces Mo.k9 4 j ((l.drop 1).drop ((1+c.cap.toNat)*c.chans.toNat)):=⟨_,rfl⟩
     have Wq:ys.length=j:=by rw[KW];exact jR _ _ _ _
     obtain⟨l1,wZ⟩:∃l1,l1=((l.drop 1).drop ((1+c.cap.toNat)*c.chans.toNat)).drop (4*j):=⟨_,rfl⟩
     have Fj:4<=l1.length/\l1.length<=100000:=by rw[wZ,gm,gm,gm,P5.out];have:=P5.out;have:=pd.out;omega
     have UG:∀z∈l1,0<=z/\z<18446744073709551616:=fun z hz=>HU z (List.mem_of_mem_drop (List.mem_of_mem_drop (List.mem_of_mem_drop (by rw[<-wZ];exact hz))));rw[<-KW, <-wZ]at H;obtain⟨A1,k1,xH⟩:=H.wt.shape;have wX:Below wr wr wr.drew:=(aj wr).drew;have Ha:∀b,b<w.heap.size->b<wr.drew.heap.size:=fun b hb=>by have:=H.kc.lt;show b<wr.heap.size;omega
     have hSr:∀b,b<w.heap.size->b≠gr:=fun b hb=>by have:=H.rg;omega
     have Fk:=I8 wr.drew (H.more wX).rd hSr Ha Fj.2 Fj.1 UG;obtain⟨x,hx⟩:∃x,x=Mo.k9 l1:=⟨_,rfl⟩
     rw[<-hx]at Fk;have GL:=aa Fk;have HX:=aa hx;have HYS:=aa KW;have CF:=aa wZ;rw[Wq]at xH;subst xH;obtain⟨hcb,-,hgb⟩:=af.aK H.kh;clear Fk hx KW wZ Fj UG Ha hSr;go_wp2_with fail;go_region_law(first
      |(go_simp;go_at_call 260;(with_reducible refine GL.out.mono ?_);rintro e w5 ⟨B3,d3,rfl,Ub,hx3,Sv⟩;have CG:=(H.more wX).to Sv;have XA:=fun i=>af.cell CG.kh i;have XC:=fun i=>af.free CG.kh i;have XD:=CG.kh.lt;have Lr:=CG.ext.size;have hCH:=CG.wt;obtain⟨rows,q1,q2,q3⟩:=hCH;have ju:=q1.trans Wq;have hrg3:=CG.rd.lt;have H3:=aa CG;have Q3:=aa q3;have X3:=aa hx3;clear CG q3 hx3 Sv;go_wp2_with fail)
      |(refine kP rfl _ _ 68 rfl (gr+1) 79 4 48 (.agg #[false,oZ,oZ,oN]) dR bQ fH underlying68 qo rfl (by decide) _ rows rfl ?_ w5.heap.size 1 1 [rwW x B3 d3] rfl rfl ?_ ?_ ?_ ?_ ?_;(exact q2.alloc _);(exact Rd.lit w5 (rwW x B3 d3).val _);(simp;omega);(simp;omega);(simp;omega);intro v4 w6 bX bg hzz;clear hzz;have hA:=H3.ac8 q1 q2 Q3 Ub X3 bX bg;obtain⟨A4,k4,hv4⟩:=bX.shape;rw[eN,gC,ju]at hv4;subst hv4;have HA:=aa hA;have G4:=H3.grown (row:=.slice A1 j k1) (fun b hb=>⟨(aX q2 hb).1,dV q2 b hb⟩) _ bg (by decide) (by decide) (by decide) 2 (.slice A4 (j+1) k4);have XE:=fun i=>af.cell G4.2.2.1 i;have XF:=fun i=>af.free G4.2.2.1 i;have XG:=G4.2.2.1.lt;clear hA G4 bX bg;go_wp2_with fail))
     all_goals
      have mS:tH c A n k w (w6.setCell ⟨gh,2,none⟩ (.slice A4 (j+1) k4)) (((l.drop 1).drop ((1+c.cap.toNat)*c.chans.toNat)).drop (4*(j+1))) tk vC (.slice A4 (j+1) k4) oN (Mo.pieces (Mo.ky c) (1+c.cap.toNat) c.chans.toNat (l.drop 1)) (Mo.pieces Mo.k9 4 (j+1) ((l.drop 1).drop ((1+c.cap.toNat)*c.chans.toNat))) [] gr gh:=by rw[px, <-Za.out, <-HYS.out, <-CF.out, <-HX.out,Nat.mul_succ, <-List.drop_drop (i:=4), <-CF.out];exact HA.out
      have HF:=aa mS;clear mS XE XF XG hcb hgb XA XC XD;generalize w6.setCell ⟨gh,2,none⟩ (.slice A4 (j+1) k4)=w7 at *;exact UH
    ·have Dv:j=c.threads.toNat:=by omega
     subst Dv;have HB:=aa H;clear H;obtain⟨l3,KX⟩:∃l3,l3=(((l.drop 1).drop ((1+c.cap.toNat)*c.chans.toNat)).drop (4*c.threads.toNat)):=⟨_,rfl⟩
     have h3l:l3.length=c.threads.toNat:=by rw[KX,gm,gm,gm,P5.out];omega
     have UG:∀z∈l3,0<=z/\z<18446744073709551616:=fun z hz=>HU z (List.mem_of_mem_drop (List.mem_of_mem_drop (List.mem_of_mem_drop (by rw[<-KX];exact hz))));rw[<-KX]at HB;have hRS:=rJ wr HB.rd (fun b hb=>by have:=HB.rg;omega) (fun b hb=>by have:=HB.kc.lt;omega) (by omega) c.threads.toNat (by omega) UG;rw[P6.out]at hRS;have hhl:Mo.ve c l=⟨tk,xs,Mo.pieces Mo.k9 4 c.threads.toNat ((l.drop 1).drop ((1+c.cap.toNat)*c.chans.toNat)),rI l3 c.threads.toNat⟩:=by unfold Mo.ve;dsimp only;rw[<-p6.out,Za.out,wY _ _ (by rw[<-KX];omega), <-KX];rfl
     have XH:=aa hRS;have XI:=aa hhl;obtain⟨ys,KW⟩:∃ys,ys=Mo.pieces Mo.k9 4 c.threads.toNat ((l.drop 1).drop ((1+c.cap.toNat)*c.chans.toNat)):=⟨_,rfl⟩
     rw[<-KW]at HB XI;have HYL:Hid (ys.length=c.threads.toNat):=by unfold Hid;rw[KW];exact jR _ _ _ _
     have HXL:Hid (xs.length=c.chans.toNat):=by unfold Hid;rw[Za.out];exact jR _ _ _ _
     have xE:Hid ((rI l3 c.threads.toNat).length=c.threads.toNat):=by unfold Hid rI;rw[eK,eW];omega
     have YM:Hid (∀x∈xs,x.buf.length<=100000):=fun x hx=>by
      rw[Za.out]at hx
      obtain⟨q,rfl⟩:=qG hx
      unfold Mo.ky
      dsimp only
      rw[eK,eW,eW]
      have:=(Mo.aG HC).2.2.2.2.2.2.1
      omega
     have Bb:Hid (∀x∈ys,x.cases.length<=100000):=fun x hx=>by
      rw[KW]at hx
      obtain⟨q,rfl⟩:=qG hx
      unfold Mo.k9
      dsimp only
      rw[eK,eW,eW]
      omega
     clear KX h3l UG hRS hhl KW;obtain⟨zs,hzs⟩:∃zs,zs=rI l3 c.threads.toNat:=⟨_,rfl⟩
     rw[<-hzs]at XH XI xE;clear hzs;obtain⟨A1,k1,xH⟩:=HB.ch.shape;obtain⟨A2,k2,hv2⟩:=HB.wt.shape;subst xH hv2;obtain⟨hcc,-,gH⟩:=af.aK HB.kc;go_wp2_with fail;(with_reducible refine XH.out.mono ?_);rintro e w5 ⟨vD,rfl,hOD,hT⟩;obtain⟨A3,k3,hv3⟩:=aI.shape hOD;subst hv3;have Fl:=HB.to hT;have HA:=aa (Fl.ac9 (hOD.weak (base':=gr+1) HB.rd.lt));obtain⟨hcb,hfb,hgb⟩:=af.aK Fl.kh;obtain⟨hcc5,-,hgc5⟩:=af.aK Fl.kc;have hrg:=Fl.rg;have Mg:=Fl.far;clear Fl hOD hT hcc gH HB XH;go_wp2_with fail;clear hcb hfb hgb hcc5 hgc5;generalize w5.setCell ⟨gh,3,none⟩ (.slice A3 zs.length k3)=w6 at *;have abr:=(HA.dn.xO).2;have hPH:=BX w6 HC HN (zZ.below HA.ext) ⟨tk,xs,ys,zs⟩ A1 A2 A3 xs.length ys.length zs.length k1 k2 k3 rfl rfl rfl (S:=fun b=>b<w6.heap.size) (fun b hb=>hb) (jF.mono b9 (fun b hb=>hb.lt) HA.ch.KR) (jF.mono aP (fun b hb=>hb.lt) HA.wt.KR) ⟨abr,fun ad ha hne=>by subst ha;exact(aX HA.dn rfl).2⟩ (by have:=HXL.out;omega) (by have:=HYL.out;omega) (by have:=xE.out;omega) YM Bb (k:=k) (n:=n);have HPH:=aa hPH;clear hPH abr;(with_reducible refine(HPH.out.mono fun _ _ h=>h.J.weak).mono ?_);rintro e w7 ⟨⟨B7,d7,rfl,CH⟩,uR⟩;have Cm:=aa (HA.more uR);have xZ:=aa CH;clear CH uR;obtain⟨PW,Sw⟩:∃PW,PW=Mo.oq c ⟨tk,xs,ys,zs⟩:=⟨_,rfl⟩
     have HPW:=aa Sw;have Ae:Hid (PW.length<=100000):=by
      unfold Hid;rw[Sw];by_cases hf:Mo.jo c ⟨tk,xs,ys,zs⟩=true
      ·have:=Mo.vG (Mo.pF.1 hf);have:=Eb.out;have:=pd.out;omega
      ·unfold Mo.oq;rw[ai hf];exact aY _
     rw[<-Sw]at xZ ⊢;clear Sw HA HPH;obtain⟨hcc,-,gH⟩:=af.aK Cm.kc;go_wp2_with fail;have XJ:=yR w7 B7 D d7 dd PW l Ae (by have:=pd.out;omega) xZ (lB.below Cm.ext);rw[<-pd.out]at XJ;have Dy:=aa XJ;clear XJ;(with_reducible refine Dy.out.mono ?_);rintro e w8 ⟨rfl,UI⟩;have EU:=aa (Cm.more UI.ag);clear UI hcc gH Dy xZ Cm;obtain⟨dh,cW,cY⟩:=af.aK EU.kr;obtain⟨hcb,-,hgb⟩:=af.aK EU.kh;by_cases he:PW=l
     ·have Ol:decide (PW=l)=true:=dg he;have Om:Hid (Mo.oI c l=some ⟨tk,xs,ys,zs⟩):=by
       unfold Hid Mo.oI;rw[XI.out,au (by rw[HC.out, <-HPW.out,he,Eb.out];simp[HKK.out])]
      rw[Ol];clear Ol he;go_wp2_with fail;have dZ:=aR (vs:=[tk,.slice A1 xs.length k1,.slice A2 ys.length k2,.slice A3 zs.length k3]) EU.kr rfl;have hO8:uJ w8 (gr+1) ⟨tk,xs,ys,zs⟩ A1 A2 A3 xs.length ys.length zs.length k1 k2 k3:=⟨EU.ch,EU.wt,EU.dn⟩
      have lS:=hO8.far (q:=w.heap.size+1) (by omega) EU.kr (by decide) (by decide) 0 [tk,.slice A1 xs.length k1,.slice A2 ys.length k2,.slice A3 zs.length k3];have fy:=aw (B:=w.heap.size) (g:=w.heap.size+1) (by omega) [tk,.slice A1 xs.length k1,.slice A2 ys.length k2,.slice A3 zs.length k3] _ 0 EU.ext;change bodyPost _ _ _ _ _ (av w8 (w.heap.size+1) 0 [tk,.slice A1 xs.length k1,.slice A2 ys.length k2,.slice A3 zs.length k3]);clear dh cW cY hcb hgb;generalize av w8 (w.heap.size+1) 0 [tk,.slice A1 xs.length k1,.slice A2 ys.length k2,.slice A3 zs.length k3]=wz at *;have eO:=fun i=>af.cell dZ i;refine bodyPost_ret (v:=.tuple #[.agg #[tk,.slice A1 xs.length k1,.slice A2 ys.length k2,.slice A3 zs.length k3],true]) ?_ rfl (.inl ⟨_,Om,A1,A2,A3,k1,k2,k3,rfl,lS.weak (by omega),fy⟩);simp[results,results250,go_sem,eO]
     ·have Ol:decide (PW=l)=false:=bJ he;have Om:Hid (Mo.oI c l=none):=by
       unfold Hid Mo.oI;rw[XI.out,ai (by rw[<-HPW.out];simp[he])]
      rw[Ol];clear Ol he;go_wp2_with fail;have dZ:=aR (vs:=[oZ,oN,oN,oN]) EU.kr rfl;have fy:=aw (B:=w.heap.size) (g:=w.heap.size+1) (by omega) [oZ,oN,oN,oN] _ 0 EU.ext;change bodyPost _ _ _ _ _ (av w8 (w.heap.size+1) 0 [oZ,oN,oN,oN]);clear dh cW cY hcb hgb;generalize av w8 (w.heap.size+1) 0 [oZ,oN,oN,oN]=wz at *;have eO:=fun i=>af.cell dZ i;refine bodyPost_ret (v:=.tuple #[.agg #[oZ,oN,oN,oN],false]) ?_ rfl (.inr ⟨Om,rfl,fy⟩);simp[results,results250,go_sem,eO]
end
structure qH (v:World) (g:Nat) (w w':World):Prop where
 le:w.heap.size<=w'.heap.size
 eq:∀b,b<w.heap.size->b≠g->w'.heap[b]?=w.heap[b]?
 ext:Below v v w'
 far:v.heap.size<=g/\v.heap.size<=w.heap.size
section
variable{v w a b:World} {g:Nat}
theorem qH.start(hb:Below v v w)(hg:v.heap.size<g):qH v g w w.drew:=⟨aS _,fun _ _ _=>rfl,hb.drew,ae,hb.size⟩
theorem qH.below(h:qH v g a b)(k:Below b b w):qH v g a w:=⟨bm h.le k.size,fun i hi hn=>(k.block i (by have:=h.le;omega)).trans (h.eq i hi hn),ag h.ext k,h.far⟩
theorem qH.alloc(h:qH v g a b)(o:Obj):qH v g a (b.alloc o):=h.below (ak (aj b) o)
theorem qH.fZ(hb:Below v v w)(hg:v.heap.size<g)(o:Obj):qH v g w (w.alloc o).drew :=
 have h:=(qH.start hb hg).alloc o
 ⟨h.le,h.eq,h.ext,h.far⟩
theorem qH.rdr(h:qH v g a b)(k:dK b S g l w):qH v g a w:=⟨bm h.le k.2.2.size,fun i hi hn=>(k.2.1 i (by have:=h.le;omega) hn).trans (h.eq i hi hn),h.ext.trans (k.2.2.mono h.far.1),h.far⟩
theorem qH.set(h:qH v g a b){p:Addr}(hp:a.heap.size<=p.block):qH v g a (b.setCell p u):=⟨by rw[World.size_setCell];exact h.le,fun i hi hn=>(dp _ _ _ _ ae).trans (h.eq i hi hn),h.ext.setCell (bm h.far.2 hp) _,h.far⟩
theorem qH.blk{t:TypeId}{cs:Array Value}(h:qH v g a b)(k:af a q t cs)(hn:q≠g):af b q t cs:=(h.eq q k.lt hn).trans k
theorem Sy{zs:List Int}{k:IntKind}(h:aL a (g+1) e k u zs)(hb:Below a a b)(q:dK b S g l w):aL w (g+1) e k u zs:=fj (h.ag hb) fun i hi=>q.2.1 i (aX (h.ag hb) hi).2 (by have:=(aX h hi).1;omega)
end
structure uK (w:World) (base:Nat) (x:Mo.Cl) (A1 A3:Option Addr) (n1 n3 m1 m3:Nat):Prop where
 ls:aL w base 3 .i64 (.slice A1 n1 m1) x.list
 dn:aI w base 48 4 dA (.slice A3 n3 m3) x.done
theorem uK.more{x:Mo.Cl}(h:uK w base x A1 A3 n1 n3 m1 m3)(hb:Below w w w'):uK w' base x A1 A3 n1 n3 m1 m3:=⟨h.ls.ag hb,h.dn.ag hb⟩
theorem uK.weak{base':Nat}{x:Mo.Cl}(h:uK w base x A1 A3 n1 n3 m1 m3)(hb:base'<=base):uK w base' x A1 A3 n1 n3 m1 m3:=⟨h.ls.weak hb,h.dn.weak hb⟩
theorem uK.far{x:Mo.Cl}(h:uK w base x A1 A3 n1 n3 m1 m3)(hq:q<base)(o:Nat)(vs:List Value):uK (av w q o vs) base x A1 A3 n1 n3 m1 m3:=⟨bR (fun b hb=>by have:=(aX h.ls hb).1;omega) _ _ _ _ h.ls,bR (fun b hb=>by have:=(aX h.dn hb).1;omega) _ _ _ _ h.dn⟩
def Al(x:Mo.Cl)(w:World)(e:Ending)(w':World):Prop:=∃A1 A3 m1 m3,e=.returned (.agg #[x.cap,.slice A1 x.list.length m1,.slice A3 x.done.length m3])/\uK w' w.heap.size x A1 A3 x.list.length x.done.length m1 m3/\Below w w w'
def XK(c:Mo.bH)(l:List Int)(w:World)(e:Ending)(w':World):Prop :=
 (∃x,Mo.ld c l=some x/\∃A1 A3 m1 m3,e=.returned (.tuple #[.agg #[x.cap,.slice A1 x.list.length m1,.slice A3 x.done.length m3],true])/\uK w' w.heap.size x A1 A3 x.list.length x.done.length m1 m3/\Below w w w') \/
 (Mo.ld c l=none/\e=.returned (.tuple #[.agg #[oZ,oN,oN],false])/\Below w w w')
def XL(w:World)(cf:Array Value)(gr:Nat)(x:Mo.Cl)(s:Value)(wc:World):Prop:=∃p A1 A3 m1 m3,s=.pointer (some ⟨p,0,none⟩)/\af wc p 119 #[x.cap,.slice A1 x.list.length m1,.slice A3 x.done.length m3]/\Hid (uK wc (gr+1) x A1 A3 x.list.length x.done.length m1 m3)/\w.heap.size+1<p/\Hid (Below w w wc)/\Hid (af wc w.heap.size 24 cf)/\Hid (af wc (w.heap.size+1) 119 #[oZ,oN,oN])
section
variable{w w4 w6:World} {gr p:Nat} {x:Mo.Cl} {A1 A3:Option Addr} {k1 k3:Nat} {cf:Array Value} {cc:Int}
theorem XL.last(hc:x.cap=cc)(h:qH w gr w4 w6)(h1:aL w6 (gr+1) 3 .i64 (.slice A1 x.list.length k1) x.list)(h3:aI w6 (gr+1) 48 4 dA (.slice A3 x.done.length k3) x.done)(kc:af w4 w.heap.size 24 cf)(kr:af w4 (w.heap.size+1) 119 #[oZ,oN,oN])(hg:w.heap.size+1<gr) :
 XL w cf gr x (.pointer w6.heap.size) (w6.alloc (kQ cc A1 x.list.length k1 A3 x.done.length k3)):=by
 subst hc
 have:=h.le;have:=kr.lt
 exact⟨_,A1,A3,k1,k3,rfl,af.new _ _ _,(uK.mk h1 h3).more (ak (aj w6) _),ae,ag h.ext (ak (aj w6) _),(h.blk kc ae).alloc _,(h.blk kr ae).alloc _⟩
theorem XL.mid(hc:x.cap=cc)(h:qH w gr w4 w6)(h1:aL w6 (gr+1) 3 .i64 (.slice A1 x.list.length k1) x.list)(h3:aI w6 (gr+1) 48 4 dA (.slice A3 x.done.length k3) x.done)(kc:af w4 w.heap.size 24 cf)(kr:af w4 (w.heap.size+1) 119 #[oZ,oN,oN])(hg:w.heap.size+1<gr)(hF:af w6 p 119 #[oZ,oN,oN])(hp:w4.heap.size<=p) :
 XL w cf gr x (.pointer p) (av w6 p 0 [cc,.slice A1 x.list.length k1,.slice A3 x.done.length k3]):=by
 subst hc
 have:=h.le;have:=kr.lt
 exact⟨_,A1,A3,k1,k3,rfl,aR hF rfl,⟨bR (fun b hb e=>by subst e;exact aV h1 hF ah hb.symm) _ _ _ _ h1,bR (fun b hb e=>by subst e;exact aV h3 hF ah hb.symm) _ _ _ _ h3⟩,ae,aw ae _ _ _ h.ext,aW (h.blk kc ae) ae _ _,aW (h.blk kr ae) ae _ _⟩
end
section
variable(w:World)
theorem JV{c:Mo.bH}(hc:Mo.aN c=true)(hk:c.kind≠3){A:Option Addr}{n:Nat}(hn:n=c.start.length)(hr:bC w .i64 A c.start)(l:List Int)(D:Option Addr)(dl dd:Nat)(jk:dl=l.length)(lu:(l.length:Int)=Mo.aZ c)(kg:dl<=dd)(hu:Mo.eH l)(hD:bC w .u64 D l) :
 Calls prog 255 #[.agg #[c.kind,c.threads,c.chans,c.cap,c.nodes,c.aJ,c.aB,c.tags,c.bn,c.ba,.slice A n k],.slice D dl dd] w (XK c l w):=by
 have hp:=Mo.aG hc
 have RG:(c.threads.toNat:Int)=c.threads:=Int.toNat_of_nonneg (by omega)
 have aA:(c.cap.toNat:Int)=c.cap:=Int.toNat_of_nonneg (by omega)
 have hsN:l.length=1+(c.cap.toNat+c.threads.toNat):=by have h1:=lu;unfold Mo.aZ Mo.dm at h1;rw[ai (by rw[hc];decide),ai (by rw[hc];decide),ai hk]at h1;omega
 have P5:=aa hsN
 have b1:=hp.2.2.2.2.2.2.1
 have b3:1<=c.threads:=hp.1.1
 have b4:c.threads<=64:=hp.1.2
 have hl1:dl<=2000:=by omega
 have pd:=aa jk;have Eb:=aa lu;have HU:=aa hu;have HC:=aa hc;have HN:=aa hn;have zZ:=aa hr;have lB:=aa hD;have oa:=aa aA;have P6:=aa RG;have HKK:=aa hk
 have pn:=aa (fun wx (hx:Below w w wx)=>fG wx hc hn (hr.below hx) (k:=k))
 have iq:=aa (fun wx (hx:Below w w wx)=>vY wx hc hn (hr.below hx) (k:=k))
 have dk:(c.kind==3)=false:=by rw[cq];exact hk
 have dz:((dl:Int) !=Mo.aZ c)=false:=by rw[jk,lu];simp
 clear hp hsN lu hu hc hn hr hD hk aA RG jk
 have bG:Hid (Below w w ((w.alloc (cr c A n k)).alloc DU)):=ak (ak (aj w) _) _
 have oh:Hid (af ((w.alloc (cr c A n k)).alloc DU) w.heap.size 24 #[c.kind,c.threads,c.chans,c.cap,c.nodes,c.aJ,c.aB,c.tags,c.bn,c.ba,.slice A n k]):=(af.new _ _ _).alloc _
 have pw:Hid (af ((w.alloc (cr c A n k)).alloc DU) (w.heap.size+1) 119 #[oZ,oN,oN]):=(af.newAt _ _ _ (by simp))
 go_enter func255,ntmps255
 go_wp2_with fail
 (with_reducible refine(pn.out _ bG.out).mono ?_)
 rintro e w1 ⟨rfl,hb1⟩
 have bj:=aa (ag bG.out hb1);have fh:=aa (oh.out.ag hb1);have gI:=aa (pw.out.ag hb1)
 clear hb1
 obtain⟨hcc,-,gH⟩:=af.aK fh.out
 go_wp2_with fail
 (with_reducible refine(iq.out _ bj.out).mono ?_)
 rintro e w2 ⟨rfl,hb2⟩
 have bq:=aa (ag bj.out hb2);have jv:=aa (fh.out.ag hb2);have g9:=aa (gI.out.ag hb2)
 clear hb2 hcc gH
 obtain⟨hcc,-,gH⟩:=af.aK jv.out
 go_wp2_with fail
 have HA:Hid (iO (w2.alloc (.cells #[.slice D dl dd] 280)) (fun b=>b<w.heap.size) w2.heap.size l):=by exact abq
 have bZ:=aa (ak bq.out (.cells #[.slice D dl dd] 280));have qE:=aa (jv.out.alloc (.cells #[.slice D dl dd] 280));have fx:=aa (g9.out.alloc (.cells #[.slice D dl dd] 280))
 have hgr:w.heap.size+1<w2.heap.size:=g9.out.lt
 obtain⟨gr,hg⟩:∃gr,gr=w2.heap.size:=⟨_,rfl⟩
 rw[<-hg]at HA hgr ⊢
 clear hg hcc gH
 generalize(w2.alloc (.cells #[.slice D dl dd] 280))=w3 at *
 have hNX:=lD w3 HA.out (fun b hb=>by omega) (by have:=pd.out;omega)
 (with_reducible refine hNX.mono ?_)
 rintro e w4 ⟨rfl,hT⟩
 obtain⟨x0,hx0⟩:∃x0,x0=l.getD 0 0:=⟨_,rfl⟩
 have DB:=HU.out.at_ 0
 have hx1:Mo.ax l 0=x0:=hx0.symm
 rw[hx1]at DB
 unfold Mo.r9 at DB
 obtain⟨m0,GH⟩:∃m0,m0=min x0 17:=⟨_,rfl⟩
 have VG:(if(17:Int)<x0 then(17:Int)else x0)=m0:=by rw[GH];split<;>omega
 have t0:0<=m0:=by omega
 have t1:m0<=17:=by omega
 have HX0:=aa hx0
 rw[<-hx0]
 have xE:=aa hT.1
 have ju:gr<w4.heap.size:=hT.1.lt
 have Ad:Hid (af w4 w.heap.size 24 #[c.kind,c.threads,c.chans,c.cap,c.nodes,c.aJ,c.aB,c.tags,c.bn,c.ba,.slice A n k]):=(hT.2.1 _ qE.out.lt (by omega)).trans qE.out
 have jY:Hid (af w4 (w.heap.size+1) 119 #[oZ,oN,oN]):=(hT.2.1 _ fx.out.lt (by omega)).trans fx.out
 have fJ:Hid (Below w w w4):=bZ.out.trans (hT.2.2.mono (by omega))
 have Zb:=aa GH
 clear hx0 hx1 GH hNX hT bG oh pw bj fh gI bq jv g9 bZ qE fx HA dz dk pn iq
 obtain⟨hcc,-,gH⟩:=af.aK Ad.out
 go_wp2_with fail
 clear hcc gH VG DB
 obtain⟨x,hx⟩:∃x:Mo.Cl,x=⟨c.cap,oX (l.drop 1) m0 c.cap.toNat,rI ((l.drop 1).drop c.cap.toNat) c.threads.toNat⟩:=⟨_,rfl⟩
 have hu1:∀z∈l.drop 1,0<=z/\z<18446744073709551616:=fun z hz=>HU.out z (List.mem_of_mem_drop hz)
 have ada:(l.drop 1).length=c.cap.toNat+c.threads.toNat:=by rw[gm,P5.out];omega
 have EB:=aa (fun wx (hx:Below w4 w4 wx)=>GM wx (xE.out.ext (fun b hb=>by omega) hx) (fun b hb=>by omega) (fun b hb=>by have:=hx.size;omega) (by omega) m0 c.cap.toNat c.cap oa.out.symm (by omega) hu1)
 have Zc:Hid (∀wx,iO wx (fun b=>b<w.heap.size) gr ((l.drop 1).drop c.cap.toNat)->Calls prog 261 #[.pointer (some ⟨gr,0,none⟩),c.threads] wx fun e w'=>∃v,e=.returned v/\aI w' wx.heap.size 48 4 dA v x.done/\dK wx (fun b=>b<w.heap.size) gr (((l.drop 1).drop c.cap.toNat).drop c.threads.toNat) w'):=fun wx hR=>by
  have h:=rJ wx hR (fun b hb=>by omega) (fun b hb=>by have:=hR.lt;omega) (by rw[gm];omega) c.threads.toNat (by rw[gm];omega) (fun z hz=>hu1 z (List.mem_of_mem_drop hz))
  rw[P6.out]at h
  rw[hx]
  exact h
 have hxc:x.cap=c.cap:=by rw[hx]
 have Su:oX (l.drop 1) m0 c.cap.toNat=x.list:=by rw[hx]
 rw[Su]at EB
 have HX:=aa hx;have HXC:=aa hxc
 clear hx hu1 ada Su hxc
 have cQ:=fun wx (hx:qH w gr w4 wx) i=>af.cell (hx.blk Ad.out (by omega)) i
 go_cut[8] (fun s8 wx=>XL w #[c.kind,c.threads,c.chans,c.cap,c.nodes,c.aJ,c.aB,c.tags,c.bn,c.ba,.slice A n k] gr x s8 wx)
 case first =>
  go_region_held3(qH w gr w4) (with_reducible(repeat(first|assumption|exact qH.start fJ.out (by omega)|exact qH.fZ fJ.out (by omega) _|refine qH.alloc ?_ _|refine qH.set ?_ (by simp;try omega)))) (first
   |((with_reducible refine(EB.out _ (by first|exact(aj w4).drew|exact(ak (aj w4) _).drew)).mono ?_);rintro e w5 ⟨v5,rfl,kv,hT5⟩;obtain⟨A1,k1,xH⟩:=aL.shape kv;subst xH;have xb:=qH.rdr (by assumption) hT5;have hs5:=xb.le;have Mb:=kv.weak (base':=gr+1) (bm ju (qH.le (v:=w) (g:=gr) (w:=w4) (by assumption)));have Dz:=hT5.1;have CE:=Dz.lt;(try(have Hb:af w5 w4.heap.size 119 #[oZ,oN,oN]:=(hT5.2.1 _ (by simp) (by omega)).trans (af.dr (af.new w4 _ _));have aek:=fun i=>af.cell Hb i;have ael:=fun i=>af.free Hb i;have aem:=Hb.lt)))
   |((with_reducible refine(Zc.out _ (by first|exact Dz|exact Dz.ext (fun b hb=>by have:=Dz.lt;omega) (ak (aj _) _))).mono ?_);rintro e w6 ⟨v6,rfl,Y0,UJ⟩;obtain⟨A3,k3,hv3⟩:=aI.shape Y0;subst hv3;have hX6:=qH.rdr (by assumption) UJ;have JW:=Y0.weak (base':=gr+1) (bm ju (qH.le (v:=w) (g:=gr) (w:=w4) (by assumption)));have hQ6:=Sy Mb (by first|exact aj w5|exact ak (aj w5) _) UJ;(first|(have DC:af w6 w4.heap.size 119 #[oZ,oN,oN]:=(UJ.2.1 _ Hb.lt (by omega)).trans Hb;have adb:=fun i=>af.cell DC i;have ade:=fun i=>af.free DC i;have adf:=DC.lt)|(have DC:af w6 w5.heap.size 119 #[oZ,oN,oN]:=(UJ.2.1 _ (by simp) (by omega)).trans (af.new w5 _ _);have adb:=fun i=>af.cell DC i;have ade:=fun i=>af.free DC i;have adf:=DC.lt)|skip)))
  all_goals
   go_wp2_with fail;go_meet;first
    |exact XL.last HXC.out hX6 hQ6 JW Ad.out jY.out hgr
    |exact XL.mid HXC.out hX6 hQ6 JW Ad.out jY.out hgr DC (by first|exact aS _|exact hs5)
 case rest =>
  obtain⟨p,A1,A3,m1,m3,rfl,hP,HO,hpg,HE,oh,pw⟩:=hcut;have hHL:Mo.cellsOf c l=x:=by unfold Mo.cellsOf;dsimp only;rw[<-HX0.out, <-Zb.out,HX.out,wY _ _ (by rw[gm];have:=P5.out;omega),List.drop_drop];rfl
  have XI:=aa hHL;have Fh:Hid (x.list.length<=1000/\x.done.length<=1000):=by unfold Hid;rw[HX.out];dsimp only[oX,rI];rw[eK,eW,eW,eK,eW];omega
  have HP:=aa hP;obtain⟨aA,-,aU⟩:=af.aK HP.out;obtain⟨hcc,-,gH⟩:=af.aK oh.out;clear hP EB Zc xE HX HXC HX0 Zb cQ fJ Ad jY hHL;go_wp2_with fail;have hPC:=B8 wc HC.out HN.out (zZ.out.below HE.out) x A1 A3 x.list.length x.done.length m1 m3 rfl rfl (S:=fun b=>b<wc.heap.size) (fun b hb=>hb) ⟨HO.out.ls.pU.2,fun ad ha hne=>by subst ha;exact(aX HO.out.ls rfl).2⟩ ⟨HO.out.dn.xO.2,fun ad ha hne=>by subst ha;exact(aX HO.out.dn rfl).2⟩ (by have:=Fh.out;omega) (by have:=Fh.out;omega) (k:=k) (n:=n);(with_reducible refine(hPC.mono fun _ _ h=>h.J.weak).mono ?_);rintro e w7 ⟨⟨B7,d7,rfl,CH⟩,uR⟩;have Nq:=aa (HO.out.more uR);have HE7:=aa (ag HE.out uR);have abt:=aa (pw.out.ag uR);have HP7:=aa (HP.out.ag uR);have xZ:=aa CH;obtain⟨PW,Sw⟩:∃PW,PW=Mo.kD c x:=⟨_,rfl⟩
  have HPW:=aa Sw;have Ae:Hid (PW.length<=100000):=by
   unfold Hid;rw[Sw];unfold Mo.kD;split
   ·rw[List.length_cons,eN,eK,kj];have:=Fh.out;omega
   ·exact aY _
  rw[<-Sw]at xZ ⊢;clear Sw CH hPC uR aA aU hcc gH HO HE pw oh HP Fh;go_wp2_with fail;have XJ:=yR w7 B7 D d7 dd PW l Ae.out (by have:=pd.out;omega) xZ.out (lB.out.below HE7.out);rw[<-pd.out]at XJ;(with_reducible refine XJ.mono ?_);rintro e w8 ⟨rfl,UI⟩;have Ri:=aa (Nq.out.more UI.ag);have HE8:=aa (ag HE7.out UI.ag);have XM:=aa (abt.out.ag UI.ag);have HP8:=aa (HP7.out.ag UI.ag);clear XJ UI Nq HE7 abt HP7 xZ;obtain⟨dh,cW,cY⟩:=af.aK XM.out;obtain⟨aA,-,aU⟩:=af.aK HP8.out;by_cases he:PW=l
  ·have Ol:decide (PW=l)=true:=dg he;have Om:Hid (Mo.ld c l=some x):=by
    unfold Hid Mo.ld;rw[XI.out,au (by rw[HC.out, <-HPW.out,he,Eb.out];simp[HKK.out])]
   rw[Ol];clear Ol he;go_wp2_with fail;have dZ:=aR (vs:=[x.cap,.slice A1 x.list.length m1,.slice A3 x.done.length m3]) XM.out rfl;have lS:=Ri.out.far (q:=w.heap.size+1) (by omega) 0 [x.cap,.slice A1 x.list.length m1,.slice A3 x.done.length m3];have fy:=aw (B:=w.heap.size) (g:=w.heap.size+1) (by omega) [x.cap,.slice A1 x.list.length m1,.slice A3 x.done.length m3] _ 0 HE8.out;change bodyPost _ _ _ _ _ (av w8 (w.heap.size+1) 0 [x.cap,.slice A1 x.list.length m1,.slice A3 x.done.length m3]);clear dh cW cY aA aU;generalize av w8 (w.heap.size+1) 0 [x.cap,.slice A1 x.list.length m1,.slice A3 x.done.length m3]=wz at *;have eO:=fun i=>af.cell dZ i;refine bodyPost_ret (v:=.tuple #[.agg #[x.cap,.slice A1 x.list.length m1,.slice A3 x.done.length m3],true]) ?_ rfl (.inl ⟨_,Om.out,A1,A3,m1,m3,rfl,lS.weak (by omega),fy⟩);simp[results,results255,go_sem,eO]
  ·have Ol:decide (PW=l)=false:=bJ he;have Om:Hid (Mo.ld c l=none):=by
    unfold Hid Mo.ld;rw[XI.out,ai (by rw[<-HPW.out];simp[he])]
   rw[Ol];clear Ol he;go_wp2_with fail;have dZ:=aR (vs:=[oZ,oN,oN]) XM.out rfl;have fy:=aw (B:=w.heap.size) (g:=w.heap.size+1) (by omega) [oZ,oN,oN] _ 0 HE8.out;change bodyPost _ _ _ _ _ (av w8 (w.heap.size+1) 0 [oZ,oN,oN]);clear dh cW cY aA aU;generalize av w8 (w.heap.size+1) 0 [oZ,oN,oN]=wz at *;have eO:=fun i=>af.cell dZ i;refine bodyPost_ret (v:=.tuple #[.agg #[oZ,oN,oN],false]) ?_ rfl (.inr ⟨Om.out,rfl,fy⟩);simp[results,results255,go_sem,eO]
end
theorem ze{f:α->List Value}{A:Option Addr}{n c:Nat}(h:aI w base e m f (.slice A n c) xs)(hne:xs≠[]):∃g,A=some ⟨g,0,none⟩/\base<=g/\g<w.heap.size:=by
 have hl:=h.cap.1;rcases h.2 with⟨h',h2⟩|⟨g',cap,cur,hv,hb,hh,_⟩
 ·injection h' with _ h3 _
  exact absurd (List.length_eq_zero_iff.1 ae) hne
 ·injection hv with e1 _ _
  exact⟨g',e1,hb,(aX h (by rw[e1];rfl)).2⟩
def ClE(x:Mo.Cl)(base:Nat)(w:World)(e:Ending)(w':World):Prop:=∃A1 A3 m1 m3,e=.returned (.agg #[x.cap,.slice A1 x.list.length m1,.slice A3 x.done.length m3])/\uK w' base x A1 A3 x.list.length x.done.length m1 m3/\Below base w w'
section
variable(w:World)
theorem lG{x:Mo.Cl}(h1:n1=x.list.length)(h3:n3=x.done.length)(hb:base<=w.heap.size)(ho:uK w base x A1 A3 n1 n3 m1 m3)(t:Int)(ht:0<=t/\t<x.done.length)(s cd v:Int) :
 Calls prog 270 #[.agg #[x.cap,.slice A1 n1 m1,.slice A3 n3 m3],t,s,cd,v] w (ClE {x with done:=Mo.gY x.done t ⟨s,0,cd,v⟩} base w):=by
 obtain⟨j,hj⟩:∃j:Nat,t=j:=⟨t.toNat,ae⟩
 subst hj
 obtain⟨g3,rfl,hg,hg3⟩:=ze ho.dn (fun h=>by rw[h]at ht;simp at ht;omega)
 have HO:=aa ho;have H1:=aa h1;have H3:=aa h3
 obtain⟨x3,hx3⟩:∃x3,x.done[j]?=some x3:=⟨_,cD ae⟩
 have q0:=aI.cells cm ho.dn hx3 (j:=0) rfl
 have q1:=aI.cells cm ho.dn hx3 (j:=1) rfl
 have q2:=aI.cells cm ho.dn hx3 (j:=2) rfl
 have q3:=aI.cells cm ho.dn hx3 (j:=3) rfl
 rw[Nat.add_zero]at q0
 have f0:=aI.frozen ho.dn (j*4)
 have f1:=aI.frozen ho.dn (j*4+1)
 have f2:=aI.frozen ho.dn (j*4+2)
 have f3:=aI.frozen ho.dn (j*4+3)
 have t0:(0:Int)<=(j:Int):=ae
 have t1:(j:Int)<(n3:Int):=ae
 clear ho h1 h3 hx3
 go_enter func270,ntmps270
 go_wp2_with fail
 have vV:uK (av w g3 (j*4) (dA ⟨s,0,cd,v⟩)) base {x with done:=Mo.gY x.done j ⟨s,0,cd,v⟩} A1 g3 n1 n3 m1 m3:=by
  refine⟨bR (fun b hb e=>?_) _ _ _ _ HO.ls,?_⟩
  ·subst e;exact cR HO.ls HO.dn ah hb rfl
  ·unfold Mo.gY;dsimp only;rw[ai ae,fF];exact HO.dn.setRow cm (i:=j) ae ⟨s,0,cd,v⟩ oV
 have hl2:(Mo.gY x.done j ⟨s,0,cd,v⟩).length=n3:=by unfold Mo.gY;rw[ai ae,cK];exact H3.symm
 have hsz:(av w g3 (j*4) (dA ⟨s,0,cd,v⟩)).heap.size=w.heap.size:=bw _ _ _
 have qO:=aw (B:=base) (g:=g3) hg (dA ⟨s,0,cd,v⟩) _ (j*4) (Below.refl base w)
 change bodyPost _ _ _ _ _ (((av w g3 (j*4) (dA ⟨s,0,cd,v⟩)).alloc (kQ x.cap A1 n1 m1 g3 n3 m3)).alloc (kQ x.cap A1 n1 m1 g3 n3 m3))
 generalize av w g3 (j*4) (dA ⟨s,0,cd,v⟩)=w2 at *
 have dZ:af ((w2.alloc (kQ x.cap A1 n1 m1 g3 n3 m3)).alloc (kQ x.cap A1 n1 m1 g3 n3 m3)) (w.heap.size+1) 119 #[x.cap,.slice A1 n1 m1,.slice g3 n3 m3]:=af.newAt _ _ _ (by simp[hsz])
 have fy:Below base w ((w2.alloc (kQ x.cap A1 n1 m1 g3 n3 m3)).alloc (kQ x.cap A1 n1 m1 g3 n3 m3)):=(qO.alloc ae _).alloc (by simp;omega) _
 have lS:=(vV.more (ak (aj w2) (kQ x.cap A1 n1 m1 g3 n3 m3))).more (ak (aj _) (kQ x.cap A1 n1 m1 g3 n3 m3))
 have eO:=fun i=>af.cell dZ i
 generalize((w2.alloc (kQ x.cap A1 n1 m1 g3 n3 m3)).alloc (kQ x.cap A1 n1 m1 g3 n3 m3))=wz at *
 refine bodyPost_ret (v:=.agg #[x.cap,.slice A1 n1 m1,.slice g3 n3 m3]) ?_ rfl ⟨A1,_,m1,m3,by rw[hl2,H1.out],?_,fy⟩
 ·simp[results,results270,go_sem,eO]
 ·rw[hl2];dsimp only;rw[<-H1.out];exact lS
theorem Oo(cap th:Int)(b3:1<=th)(b4:th<=64) :
 Calls prog 147 #[cap,th] w (Al ⟨cap,[],List.replicate th.toNat Mo.dC⟩ w):=by
 have a3:¬64<th:=ae
 have a4:¬th<0:=ae
 have m3:=fun wx=>run_mk wx 69 48 (z:=.agg #[oZ,oZ,oZ,oZ]) (sz:=4) (by_:=32) rfl sH th ae ae ah
 have e3:(Value.agg #[oZ,oZ,oZ,oZ]).cells=(dA Mo.dC).toArray:=rfl
 rw[e3]at m3
 clear e3
 generalize nU:madeCells (dA Mo.dC).toArray (th.toNat*4)=M3 at m3
 have nU:=aa nU
 go_enter func147,ntmps147
 go_wp2_with fail
 have hM:=pL (w:=((w.alloc (kQ cap none 0 0 (some ⟨w.heap.size+1,0,none⟩) th.toNat th.toNat)).alloc (.cells M3 48))) (e:=48) (base:=w.heap.size) cm ah Mo.dC th.toNat ae (g:=w.heap.size+1) (by rw[nU.out];exact af.newAt _ _ _ aF) ae
 have dZ:af ((w.alloc (kQ cap none 0 0 (some ⟨w.heap.size+1,0,none⟩) th.toNat th.toNat)).alloc (.cells M3 48)) w.heap.size 119 #[cap,oN,.slice (some ⟨w.heap.size+1,0,none⟩) th.toNat th.toNat]:=(af.new _ _ _).alloc _
 have fy:=ak (ak (aj w) (kQ cap none 0 0 (some ⟨w.heap.size+1,0,none⟩) th.toNat th.toNat)) (.cells M3 48)
 have eO:=fun i=>af.cell dZ i
 generalize((w.alloc (kQ cap none 0 0 (some ⟨w.heap.size+1,0,none⟩) th.toNat th.toNat)).alloc (.cells M3 48))=wz at *
 refine bodyPost_ret (v:=.agg #[cap,oN,.slice (some ⟨w.heap.size+1,0,none⟩) th.toNat th.toNat]) ?_ rfl ⟨none,_,0,th.toNat,by rw[gf];rfl,⟨aL.nil _ _ _ _,by rw[gf];exact hM⟩,fy⟩
 simp[results,results147,go_sem,eO]
theorem CI{x:Mo.Cl}(h1:n1=x.list.length)(h3:n3=x.done.length)(l1:n1<=100000)(l3:n3<=100000)(r1:bC w .i64 A1 x.list)(r3:cN w dA A3 x.done) :
 Calls prog 269 #[.agg #[x.cap,.slice A1 n1 m1,.slice A3 n3 m3]] w (Al x w):=by
 subst h1;subst h3
 have C1:=aa (fun wx (hb:Below w w wx)=>gq wx A1 m1 x.list rfl ae (r1.below hb))
 have C3:=aa (fun wx (hb:Below w w wx)=>qB wx A3 m3 x.done rfl ae (r3.below hb))
 clear r1 r3
 have fI:Below w w (((w.alloc (kQ x.cap A1 x.list.length m1 A3 x.done.length m3)).alloc DU).drew):=(ak (ak (aj w) _) _).drew
 have GD:af (((w.alloc (kQ x.cap A1 x.list.length m1 A3 x.done.length m3)).alloc DU).drew) w.heap.size 119 #[x.cap,.slice A1 x.list.length m1,.slice A3 x.done.length m3]:=(af.new _ _ _).alloc _
 have rE:af (((w.alloc (kQ x.cap A1 x.list.length m1 A3 x.done.length m3)).alloc DU).drew) (w.heap.size+1) 119 #[oZ,oN,oN]:=(af.newAt _ _ _ aF)
 go_enter func269,ntmps269
 go_wp2_with fail
 go_region_law(first
  |(go_simp;go_at_call 62;refine(C1 _ fI).mono ?_;rintro e w1 ⟨B1,d1,rfl,Gw,eo,hb1⟩;have ma:=ag fI hb1;have tV:=GD.ag hb1;have sW:=rE.ag hb1;have Q6:=fun i=>af.cell tV i;have adg:=fun i=>af.free tV i;have adh:=tV.lt;go_wp2_with fail)
  |(go_simp;go_at_call 267;refine(C3 _ ma).mono ?_;rintro e w3 ⟨B3,d3,rfl,Ub,mA,hb3⟩;have oU:=ag ma hb3;have hK3:=tV.ag hb3;have sf:=sW.ag hb3;have abh:=fun i=>af.cell hK3 i;have abi:=fun i=>af.free hK3 i;have abj:=hK3.lt;have Ex:=fun i=>af.cell sf i;have Mf:=fun i=>af.free sf i;have Ey:=sf.lt;go_wp2_with fail))
 all_goals
  have yK:uK w3 w.heap.size x B1 B3 x.list.length x.done.length d1 d3:=⟨(eo.weak (base':=w.heap.size) (by simp;omega)).ag hb3,mA.weak (base':=w.heap.size) ma.size⟩
  have rY:uK (av w3 w.heap.size 1 [.slice B1 x.list.length d1,.slice B3 x.done.length d3]) w.heap.size x B1 B3 x.list.length x.done.length d1 d3:=⟨bR (fun b hb e=>by subst e;exact aV yK.ls hK3 ah hb.symm) _ _ _ _ yK.ls,bR (fun b hb e=>by subst e;exact aV yK.dn hK3 ah hb.symm) _ _ _ _ yK.dn⟩
  have hK4:af (av w3 w.heap.size 1 [.slice B1 x.list.length d1,.slice B3 x.done.length d3]) w.heap.size 119 #[x.cap,.slice B1 x.list.length d1,.slice B3 x.done.length d3]:=(hK3.bb 1 _).bb 2 _;have KG:=aW sf (b:=w.heap.size+1) (g:=w.heap.size) ae [.slice B1 x.list.length d1,.slice B3 x.done.length d3] 1;have IG:=aw (B:=w.heap.size) (g:=w.heap.size) (aS _) [.slice B1 x.list.length d1,.slice B3 x.done.length d3] _ 1 oU;change Exit.then _ _ _ _ (av w3 w.heap.size 1 [.slice B1 x.list.length d1,.slice B3 x.done.length d3]);clear Q6 adg adh abh abi abj Ex Mf Ey GD rE fI tV sW ma hb1 hb3 eo mA hK3 sf oU yK;generalize av w3 w.heap.size 1 [.slice B1 x.list.length d1,.slice B3 x.done.length d3]=w4 at *;obtain⟨fU,-,km⟩:=af.aK hK4;obtain⟨dh,cW,cY⟩:=af.aK KG;have HO:=aa rY;clear rY;go_wp2_with fail;have dZ:=aR (vs:=[x.cap,.slice B1 x.list.length d1,.slice B3 x.done.length d3]) KG rfl;have lS:uK (av w4 (w.heap.size+1) 0 [x.cap,.slice B1 x.list.length d1,.slice B3 x.done.length d3]) w.heap.size x B1 B3 x.list.length x.done.length d1 d3:=⟨bR (fun b hb e=>by subst e;exact aV HO.ls KG ah hb.symm) _ _ _ _ HO.ls,bR (fun b hb e=>by subst e;exact aV HO.dn KG ah hb.symm) _ _ _ _ HO.dn⟩
  have fy:=aw (B:=w.heap.size) (g:=w.heap.size+1) ae [x.cap,.slice B1 x.list.length d1,.slice B3 x.done.length d3] _ 0 IG;change bodyPost _ _ _ _ _ (av w4 (w.heap.size+1) 0 [x.cap,.slice B1 x.list.length d1,.slice B3 x.done.length d3]);clear fU km dh cW cY;generalize av w4 (w.heap.size+1) 0 [x.cap,.slice B1 x.list.length d1,.slice B3 x.done.length d3]=wz at *;have eO:=fun i=>af.cell dZ i;refine bodyPost_ret (v:=.agg #[x.cap,.slice B1 x.list.length d1,.slice B3 x.done.length d3]) ?_ rfl ⟨B1,B3,d1,d3,rfl,lS,fy⟩;simp[results,results269,go_sem,eO]
end
theorem Al.fin{z y:Mo.Cl}{w5:World}{E1 E3:Option Addr}{k1 k3:Nat}(h:z=y)(hO:uK w5 (w.heap.size+3) y E1 E3 y.list.length y.done.length k1 k3)(hq:af w5 (w.heap.size+2) 119 #[oZ,oN,oN])(hb:Below w w w5) :
 af (av w5 (w.heap.size+2) 0 [y.cap,.slice E1 y.list.length k1,.slice E3 y.done.length k3]) (w.heap.size+2) 119 #[y.cap,.slice E1 y.list.length k1,.slice E3 y.done.length k3]/\Al z w (.returned (.agg #[y.cap,.slice E1 y.list.length k1,.slice E3 y.done.length k3])) (av w5 (w.heap.size+2) 0 [y.cap,.slice E1 y.list.length k1,.slice E3 y.done.length k3]):=by
 subst h
 exact⟨aR hq rfl,E1,E3,k1,k3,rfl,(hO.far (q:=w.heap.size+2) ae _ _).weak ae,aw ae _ _ _ hb⟩
section
variable(w:World)
theorem Fm{x:Mo.Cl}(h1:n1=x.list.length)(l1:n1<=1000)(l3:x.done.length<=1000)(r1:bC w .i64 A1 x.list)(r3:cN w dA A3 x.done)(t s:Int)(ht:0<=t/\t<x.done.length)(q:Mo.Rq)(D:Option Addr)(ql qd:Nat) :
 Calls prog 257 #[.agg #[x.cap,.slice A1 n1 m1,.slice A3 x.done.length m3],t,s,.agg #[q.kind,q.arg,q.value,q.dflt,.slice D ql qd]] w (Al (Mo.fR x t s q) w):=by
 have pn:=aa (fun wx (hb:Below w w wx)=>CI wx (x:=x) (A1:=A1) (A3:=A3) (m1:=m1) (m3:=m3) h1 rfl ae ae (r1.below hb) (r3.below hb))
 have HT:=aa ht;have H1:=aa h1
 unfold Al at pn
 rw[<-h1]at pn
 clear h1
 clear r1 r3 ht
 have bG:Hid (Below w w (((w.alloc (kQ x.cap A1 n1 m1 A3 x.done.length m3)).alloc (iG q D ql qd)).alloc DU)):=ak (ak (ak (aj w) _) _) _
 have uV:Hid (af (((w.alloc (kQ x.cap A1 n1 m1 A3 x.done.length m3)).alloc (iG q D ql qd)).alloc DU) (w.heap.size+1) 42 #[q.kind,q.arg,q.value,q.dflt,.slice D ql qd]):=(af.newAt _ _ _ aF).alloc _
 have pw:Hid (af (((w.alloc (kQ x.cap A1 n1 m1 A3 x.done.length m3)).alloc (iG q D ql qd)).alloc DU) (w.heap.size+2) 119 #[oZ,oN,oN]):=(af.newAt _ _ _ aF)
 go_enter func257,ntmps257
 go_wp2_with fail
 refine(pn _ bG).mono ?_
 rintro e w1 ⟨B1,B3,d1,d3,rfl,hO,hb1⟩
 have HO:Hid (uK (w1.alloc (kQ x.cap B1 n1 d1 B3 x.done.length d3)) (w.heap.size+3) x B1 B3 n1 x.done.length d1 d3):=(hO.weak (base':=w.heap.size+3) aF).more (ak (aj w1) _)
 have HB:=aa (ag (ag bG hb1) (ak (aj w1) (kQ x.cap B1 n1 d1 B3 x.done.length d3)))
 have HQ:=aa ((pw.ag hb1).alloc (kQ x.cap B1 n1 d1 B3 x.done.length d3))
 have HK:=aa ((uV.ag hb1).alloc (kQ x.cap B1 n1 d1 B3 x.done.length d3))
 have HP:Hid (af (w1.alloc (kQ x.cap B1 n1 d1 B3 x.done.length d3)) w1.heap.size 119 #[x.cap,.slice B1 n1 d1,.slice B3 x.done.length d3]):=af.new _ _ _
 have aU:w.heap.size+2<w1.heap.size:=by have:=hb1.size;simp at this;omega
 clear bG uV pw pn hO hb1
 go_upto_region 2 with fail
 obtain⟨p,hp⟩:=aD w1.heap.size
 rw[<-hp]at HP aU ⊢
 clear hp
 generalize(w1.alloc (kQ x.cap B1 n1 d1 B3 x.done.length d3))=w2 at *
 obtain⟨fU,-,km⟩:=af.aK HK
 obtain⟨aA,bh,hgq2⟩:=af.aK HP
 by_cases h8:q.kind=8
 ·by_cases hc:x.cap<=n1
  ·have hc':¬((n1:Int)<x.cap):=ae;go_wp2_with fail;refine(lG w2 (x:=x) (base:=w.heap.size+3) (A1:=B1) (m1:=d1) H1 rfl (by first|omega|(rw[World.size_setCell];omega)) HO t HT s 10 0).mono ?_;rintro e w5 ⟨E1,E3,k1,k3,rfl,kv,p9⟩;have jm:af w5 (w.heap.size+2) 119 #[oZ,oN,oN]:=(p9.block _ ae).trans HQ;have hF:=Al.fin (z:=Mo.fR x t s q) (by unfold Mo.fR;rw[au h8,au (by rw[<-H1.out];exact hc)]) kv jm (HB.trans (p9.mono ae));exact abu
  ·have hc':(n1:Int)<x.cap:=ae;go_wp2_with(at_builtin;refine cP _ rfl _ _ 22 rfl (w.heap.size+3) 3 .i64 underlying22 fc _ x.list (by rfl) (aL.alloc HO.ls _) w2.heap.size 1 1 [q.value] rfl rfl (bC.one _ .i64 _ _) ?c4 ?c6 ?_)
   case c4=>have:=H1.out;show(x.list.length+1)*8<=_;omega
   case c6=>first|omega|(simp;omega)
   intro v4 w4 bX bg hzz;clear hzz;obtain⟨A4,c4,hv4⟩:=bX.shape;rw[eN,gC, <-H1.out]at hv4;subst hv4;have mA:=aL.alloc HO.ls (.cells #[q.value] 3);have GP:=(HP.alloc (.cells #[q.value] 3)).grown bg (aV mA (HP.alloc (.cells #[q.value] 3)) ah);have tu:=(HQ.alloc (.cells #[q.value] 3)).grown bg (aV mA (HQ.alloc (.cells #[q.value] 3)) ah);have hd4:=fj HO.dn (fun b hb=>(bg.block b (by have:=(aX HO.dn hb).2;simp;omega) (fun he=>cR HO.dn HO.ls ah hb he)).trans ((ak (aj w2) (.cells #[q.value] 3)).block b (aX HO.dn hb).2));have hb4:=aL.br mA (ak HB (.cells #[q.value] 3)) bg (by have:=HB.size;simp;omega) ae;have MK:=aa GP;have lQ:=aa (tu.far (p:=⟨p,1,none⟩) (by show w.heap.size+2≠p;omega) (.slice A4 (n1+1) c4));have fJ:=aa (hb4.setCell (p:=⟨p,1,none⟩) (by show w.heap.size<=p;omega) (.slice A4 (n1+1) c4));have kV:Hid (uK (w4.setCell ⟨p,1,none⟩ (.slice A4 (n1+1) c4)) (w.heap.size+3) {x with list:=x.list++[q.value]} A4 B3 (n1+1) x.done.length c4 d3):=⟨bB bX GP ah 1 _,bB hd4 GP ah 1 _⟩
   obtain⟨hcp4,hfp4,hgp4⟩:=af.aK MK;clear bX bg mA GP tu hd4 hb4 fU km aA hgq2 bh;go_wp2_with fail;refine(lG (w4.setCell ⟨p,1,none⟩ (.slice A4 (n1+1) c4)) (x:={x with list:=x.list++[q.value]}) (base:=w.heap.size+3) (A1:=A4) (m1:=c4) (by simp[H1.out]) rfl (by first|omega|(rw[World.size_setCell];omega)) kV t HT s 0 0).mono ?_;rintro e w5 ⟨E1,E3,k1,k3,rfl,kv,p9⟩;have jm:af w5 (w.heap.size+2) 119 #[oZ,oN,oN]:=(p9.block _ ae).trans lQ;have hF:=Al.fin (z:=Mo.fR x t s q) (by unfold Mo.fR;rw[au h8,ai (by have:=H1.out;omega)]) kv jm (fJ.trans (p9.mono ae));obtain⟨y,hy⟩:∃y:Mo.Cl,y={{x with list:=x.list++[q.value]}with done:=Mo.gY ({x with list:=x.list++[q.value]}).done t ⟨s,0,0,0⟩}:=⟨_,rfl⟩
   exact abv
 ·by_cases h9:q.kind=9
  ·rcases Nat.eq_zero_or_pos n1 with h0|h0
   ·subst h0;go_wp2_with fail;refine(lG w2 (x:=x) (base:=w.heap.size+3) (A1:=B1) (m1:=d1) H1 rfl (by first|omega|(rw[World.size_setCell];omega)) HO t HT s 10 0).mono ?_;rintro e w5 ⟨E1,E3,k1,k3,rfl,kv,p9⟩;have jm:af w5 (w.heap.size+2) 119 #[oZ,oN,oN]:=(p9.block _ ae).trans HQ;have hF:=Al.fin (z:=Mo.fR x t s q) (by unfold Mo.fR;rw[ai h8,au h9,au H1.out.symm]) kv jm (HB.trans (p9.mono ae));exact abu
   ·obtain⟨ad,z,hA,hz,cz⟩:=bC.at_ HO.ls.pU.2 (i:=0) (by rw[<-H1.out];exact h0);subst hA;rw[add_zero]at cz;have HZ:Hid (x.list.getD 0 0=z):=by unfold Hid;rw[eR,hz];rfl
    have i2:(0:Int)<(n1:Int):=ae;have i3:¬(n1:Int)=0:=ae;have i4:¬n1=0:=ae;have PA:=fun w'=>jt (P:=prog) 22 3 underlying22 fc (some ad) n1 d1 1 1 rfl ae w';obtain⟨r,hr⟩:=aD (x.list.drop 1);have ju:n1-1=r.length:=by rw[hr,gm,H1.out]
    have gu:=aa (fun w' (hb:Below w2 w2 w')=>gq w' (mf (some ad) d1 1 1) (d1-1) r ju ae (by
     have:=(HO.ls.ag hb).pU.2.from (c:=d1) (by rw[<-H1.out];exact HO.ls.cap.2) 1;rw[<-hr]at this;rw[tD];exact this))
    have HR:=aa hr;have xE:=aa ju;clear hz hr ju;go_wp2_with fail;refine(gu _ (aj w2)).mono ?_;rintro e w3 ⟨A4,c4,rfl,KD,rY,hb4⟩;have GP:=HP.ag hb4;have Mb:=GP.bb 1 (.slice A4 (n1-1) c4);have rL:Hid (uK (w3.setCell ⟨p,1,none⟩ (.slice A4 (n1-1) c4)) (w.heap.size+3) {x with list:=r} A4 B3 (n1-1) x.done.length c4 d3):=⟨bB (rY.weak (base':=w.heap.size+3) ae) GP ah 1 _,bB (HO.dn.ag hb4) GP ah 1 _⟩
    have pX:=aa ((HQ.ag hb4).far (p:=⟨p,1,none⟩) (by show w.heap.size+2≠p;omega) (.slice A4 (n1-1) c4));have iW:=aa ((ag HB hb4).setCell (p:=⟨p,1,none⟩) (by show w.heap.size<=p;omega) (.slice A4 (n1-1) c4));obtain⟨hcp4,hfp4,hgp4⟩:=af.aK GP;clear fU km aA hgq2 bh rY hb4 GP Mb cz;go_wp2_with fail;refine(lG (w3.setCell ⟨p,1,none⟩ (.slice A4 (n1-1) c4)) (x:={x with list:=r}) (base:=w.heap.size+3) (A1:=A4) (m1:=c4) xE rfl (by first|omega|(rw[World.size_setCell];omega)) rL t HT s 0 z).mono ?_;rintro e w5 ⟨E1,E3,k1,k3,rfl,kv,p9⟩;have jm:af w5 (w.heap.size+2) 119 #[oZ,oN,oN]:=(p9.block _ ae).trans pX;have hF:=Al.fin (z:=Mo.fR x t s q) (by unfold Mo.fR;rw[ai h8,au h9,ai (by rw[<-H1.out];omega),HZ.out,HR.out]) kv jm (iW.trans (p9.mono ae));obtain⟨y,hy⟩:∃y:Mo.Cl,y={{x with list:=r}with done:=Mo.gY ({x with list:=r}).done t ⟨s,0,0,z⟩}:=⟨_,rfl⟩
    exact abv
  ·by_cases h5:q.kind=5
   ·go_wp2_with fail;refine(lG w2 (x:=x) (base:=w.heap.size+3) (A1:=B1) (m1:=d1) H1 rfl (by first|omega|(rw[World.size_setCell];omega)) HO t HT s 0 n1).mono ?_;rintro e w5 ⟨E1,E3,k1,k3,rfl,kv,p9⟩;have jm:af w5 (w.heap.size+2) 119 #[oZ,oN,oN]:=(p9.block _ ae).trans HQ;have hF:=Al.fin (z:=Mo.fR x t s q) (by unfold Mo.fR;rw[ai h8,ai h9,au h5,H1.out]) kv jm (HB.trans (p9.mono ae));obtain⟨y,hy⟩:∃y:Mo.Cl,y={x with done:=Mo.gY (x).done t ⟨s,0,0,n1⟩}:=⟨_,rfl⟩
    exact XN
   ·by_cases h6:q.kind=6
    ·go_wp2_with fail;refine(lG w2 (x:=x) (base:=w.heap.size+3) (A1:=B1) (m1:=d1) H1 rfl (by first|omega|(rw[World.size_setCell];omega)) HO t HT s 0 x.cap).mono ?_;rintro e w5 ⟨E1,E3,k1,k3,rfl,kv,p9⟩;have jm:af w5 (w.heap.size+2) 119 #[oZ,oN,oN]:=(p9.block _ ae).trans HQ;have hF:=Al.fin (z:=Mo.fR x t s q) (by unfold Mo.fR;rw[ai h8,ai h9,ai h5,au h6]) kv jm (HB.trans (p9.mono ae));obtain⟨y,hy⟩:∃y:Mo.Cl,y={x with done:=Mo.gY (x).done t ⟨s,0,0,x.cap⟩}:=⟨_,rfl⟩
     exact XN
    ·go_wp2_with fail;refine(lG w2 (x:=x) (base:=w.heap.size+3) (A1:=B1) (m1:=d1) H1 rfl (by first|omega|(rw[World.size_setCell];omega)) HO t HT s 1 0).mono ?_;rintro e w5 ⟨E1,E3,k1,k3,rfl,kv,p9⟩;have jm:af w5 (w.heap.size+2) 119 #[oZ,oN,oN]:=(p9.block _ ae).trans HQ;have hF:=Al.fin (z:=Mo.fR x t s q) (by unfold Mo.fR;rw[ai h8,ai h9,ai h5,ai h6]) kv jm (HB.trans (p9.mono ae));obtain⟨y,hy⟩:∃y:Mo.Cl,y={x with done:=Mo.gY (x).done t ⟨s,0,1,0⟩}:=⟨_,rfl⟩
     exact XN
end
def jy(r:List Int×Mo.Rs)(w:World)(e:Ending)(w':World):Prop:=∃A m,e=.returned (.tuple #[.slice A r.1.length m,.agg (dA r.2).toArray])/\aL w' w.heap.size 3 .i64 (.slice A r.1.length m) r.1/\Below w w w'
theorem jy.own{g:Nat}{ys:Array Value}(h:aL w base 3 .i64 v l)(hk:af w g 48 ys)(vs:List Value):aL (av w g 0 vs) base 3 .i64 v l:=bR (fun b hb e=>by subst e;exact aV h hk ah hb.symm) _ _ _ _ h
theorem jy.of{wz:World}{X:List Int×Mo.Rs}{n c:Nat}{A:Option Addr}{a b cd v:Int}(h1:n=l.length)(he:X=(l,⟨a,b,cd,v⟩))(ho:aL wz w.heap.size 3 .i64 (.slice A n c) l)(hb:Below w w wz):jy X w (.returned (.tuple #[.slice A n c,.agg #[a,b,cd,v]])) wz:=by subst he h1;exact⟨A,c,rfl,ho,hb⟩
section
variable(w:World)
theorem JX(l:List Int)(A:Option Addr){n:Nat}(hn:n=l.length)(hl:n<=1000)(YG:n<=m)(hr:bC w .i64 A l)(cap:Int)(q:Mo.Rq)(D:Option Addr)(ql qd:Nat) :
 Calls prog 268 #[.slice A n m,cap,.agg #[q.kind,q.arg,q.value,q.dflt,.slice D ql qd]] w (jy (Mo.iZ l cap q) w):=by
 have HC:=aa (fun wx (hb:Below w w wx)=>gq wx A m l hn ae (hr.below hb))
 have H1:=aa hn
 have HR:=aa hr
 clear hr hn
 have bG:Hid (Below w w ((w.alloc (iG q D ql qd)).alloc ij)):=ak (ak (aj w) _) _
 have uV:Hid (af ((w.alloc (iG q D ql qd)).alloc ij) w.heap.size 42 #[q.kind,q.arg,q.value,q.dflt,.slice D ql qd]):=(af.new _ _ _).alloc _
 have HK:Hid (af ((w.alloc (iG q D ql qd)).alloc ij) (w.heap.size+1) 48 #[oZ,oZ,oZ,oZ]):=(af.newAt _ _ _ aF)
 go_enter func268,ntmps268
 go_upto_region 2 with fail
 by_cases hput:q.kind=8/\(n:Int)<cap
 ·obtain⟨h8,hc⟩:=hput;have HE:Hid (Mo.iZ l cap q=(l++[q.value],⟨0,0,0,0⟩)):=by unfold Hid Mo.iZ;rw[au ⟨h8,by rw[<-H1.out];exact hc⟩];rfl
  unfold iG at bG uV HK;rw[h8]at bG uV HK;have ma:Below w w ((w.alloc (.cells #[.int .i64 8,q.arg,q.value,q.dflt,.slice D ql qd] 42)).alloc ij).drew:=bG.drew;have qO:Below w w (((w.alloc (.cells #[.int .i64 8,q.arg,q.value,q.dflt,.slice D ql qd] 42)).alloc ij).alloc (.cells #[q.value] 3)).drew:=(ak bG (.cells #[q.value] 3)).drew;have gR:af ((w.alloc (.cells #[.int .i64 8,q.arg,q.value,q.dflt,.slice D ql qd] 42)).alloc ij).drew (w.heap.size+1) 48 #[oZ,oZ,oZ,oZ]:=HK.out;have hk2:af (((w.alloc (.cells #[.int .i64 8,q.arg,q.value,q.dflt,.slice D ql qd] 42)).alloc ij).alloc (.cells #[q.value] 3)).drew (w.heap.size+1) 48 #[oZ,oZ,oZ,oZ]:=HK.alloc _;have Ij:af ((w.alloc (.cells #[.int .i64 8,q.arg,q.value,q.dflt,.slice D ql qd] 42)).alloc ij).drew w.heap.size 42 #[.int .i64 8,q.arg,q.value,q.dflt,.slice D ql qd]:=uV.out;have hq2:af (((w.alloc (.cells #[.int .i64 8,q.arg,q.value,q.dflt,.slice D ql qd] 42)).alloc ij).alloc (.cells #[q.value] 3)).drew w.heap.size 42 #[.int .i64 8,q.arg,q.value,q.dflt,.slice D ql qd]:=uV.alloc _;have hx2:bC (((w.alloc (.cells #[.int .i64 8,q.arg,q.value,q.dflt,.slice D ql qd] 42)).alloc ij).alloc (.cells #[q.value] 3)).drew .i64 (some ⟨w.heap.size+1+1,0,none⟩) [q.value]:=bC.Tr ((w.alloc (.cells #[.int .i64 8,q.arg,q.value,q.dflt,.slice D ql qd] 42)).alloc ij) .i64 q.value _ aF;have CF:Hid (n+1=(l++[q.value]).length):=by unfold Hid;simp[H1.out]
  go_wp2_with fail;go_region_law(first
   |(go_simp;go_at_call 62;refine(HC _ (by first|exact ma|exact qO)).mono ?_;rintro e w3 ⟨A4,c4,rfl,KD,rY,hb4⟩;(first|(have hk3:=gR.ag hb4;have rN:=Ij.ag hb4;have oU:=ag ma hb4)|(have hk3:=hk2.ag hb4;have rN:=hq2.ag hb4;have oU:=ag qO hb4;have hx3:=hx2.below hb4));have hs3:=oU.size;have xT:=rY.weak (base':=w.heap.size) (by first|exact ma.size|exact qO.size);have Ex:=fun i=>af.cell rN i;have Ey:=rN.lt;have XO:=fun i=>af.cell hk3 i;have XP:=fun i=>af.free hk3 i;have XQ:=hk3.lt;go_wp2_with fail)
   |((first|(refine mK rfl _ _ 22 rfl w.heap.size 3 .i64 underlying22 fc _ l rfl ?_ w3.heap.size 1 1 [q.value] rfl rfl ?_ ?_ ?_ ?_)|(refine mK rfl _ _ 22 rfl w.heap.size 3 .i64 underlying22 fc _ l rfl ?_ (some ⟨w.heap.size+1+1,0,none⟩) 1 1 [q.value] rfl rfl ?_ ?_ ?_ ?_));(first|exact aL.alloc xT _|exact xT);(first|exact bC.one _ .i64 _ _|exact hx3);(have:=H1.out;show(l.length+1)*8<=_;omega);(first|omega|(simp;omega));intro v5 w5 eM xc hzz;clear hzz;obtain⟨A5,c5,xX⟩:=eM.shape;rw[eN,gC, <-H1.out]at xX;subst xX;(first|(have oc:=(hk3.alloc (.cells #[q.value] 3)).grown xc (aV (aL.alloc xT (.cells #[q.value] 3)) (hk3.alloc (.cells #[q.value] 3)) ah);have di:=aL.br (aL.alloc xT (.cells #[q.value] 3)) (ak oU (.cells #[q.value] 3)) xc (by simp;omega) (aS _))|(have oc:=hk3.grown xc (aV xT hk3 ah);have di:=aL.br xT oU xc ae (aS _)));have adi:=fun i=>af.cell oc i;have adj:=fun i=>af.free oc i;have adk:=oc.lt;go_wp2_with fail))
  all_goals
   have rL:=aa eM;have xD:=aa oc;have iW:=aa di;clear eM xc oc di Ex Ey XO XP XQ;go_wp2_with fail;have dZ:=aR (vs:=[oZ,oZ,oZ,oZ]) xD rfl;have lS:=jy.own rL xD [oZ,oZ,oZ,oZ];have fy:=aw (B:=w.heap.size) (g:=w.heap.size+1) ae [oZ,oZ,oZ,oZ] _ 0 iW;change bodyPost _ _ _ _ _ (av w5 (w.heap.size+1) 0 [oZ,oZ,oZ,oZ]);clear adi adj adk;generalize av w5 (w.heap.size+1) 0 [oZ,oZ,oZ,oZ]=wz at *;have eO:=fun i=>af.cell dZ i;refine bodyPost_ret (v:=.tuple #[.slice A5 (n+1) c5,.agg #[oZ,oZ,oZ,oZ]]) ?_ rfl (jy.of CF HE lS fy);exact Zd
 generalize((w.alloc (iG q D ql qd)).alloc ij)=w2 at *
 obtain⟨fU,-,km⟩:=af.aK uV
 obtain⟨jG,si,hgr⟩:=af.aK HK
 by_cases h8:q.kind=8
 ·by_cases hc:(n:Int)<cap
  ·exact absurd ⟨h8,hc⟩ hput
  ·have HE:Hid (Mo.iZ l cap q=(l,⟨0,0,10,0⟩)):=by unfold Hid Mo.iZ;rw[ai (by rw[<-H1.out];omega),ai ae,au ae];rfl
   have hc':cap<=(n:Int):=ae;go_wp2_with fail;refine(HC _ bG).mono ?_;rintro e w3 ⟨A4,c4,rfl,KD,rY,hb4⟩;have jm:=(HK.ag hb4)
   obtain⟨dh,cW,cY⟩:=af.aK jm;go_wp2_with fail;have dZ:=aR (vs:=[oZ,oZ,.int .i64 10,oZ]) jm rfl;have lS:=jy.own (rY.weak (base':=w.heap.size) bG.size) jm [oZ,oZ,.int .i64 10,oZ];have fy:=aw (B:=w.heap.size) (g:=w.heap.size+1) ae [oZ,oZ,.int .i64 10,oZ] _ 0 (ag bG hb4);change bodyPost _ _ _ _ _ (av w3 (w.heap.size+1) 0 [oZ,oZ,.int .i64 10,oZ]);clear dh cW cY;generalize av w3 (w.heap.size+1) 0 [oZ,oZ,.int .i64 10,oZ]=wz at *;have eO:=fun i=>af.cell dZ i;refine bodyPost_ret (v:=.tuple #[.slice A4 n c4,.agg #[oZ,oZ,.int .i64 10,oZ]]) ?_ rfl (jy.of H1 HE lS fy);exact Zd
 ·by_cases h9:q.kind=9
  ·rcases Nat.eq_zero_or_pos n with h0|h0
   ·have HE:Hid (Mo.iZ l cap q=(l,⟨0,0,10,0⟩)):=by unfold Hid Mo.iZ;rw[ai ae,ai (by rw[<-H1.out];omega),au ae];rfl
    subst h0;go_wp2_with fail;refine(HC _ bG).mono ?_;rintro e w3 ⟨A4,c4,rfl,KD,rY,hb4⟩;have jm:=(HK.ag hb4)
    obtain⟨dh,cW,cY⟩:=af.aK jm;go_wp2_with fail;have dZ:=aR (vs:=[oZ,oZ,.int .i64 10,oZ]) jm rfl;have lS:=jy.own (rY.weak (base':=w.heap.size) bG.size) jm [oZ,oZ,.int .i64 10,oZ];have fy:=aw (B:=w.heap.size) (g:=w.heap.size+1) ae [oZ,oZ,.int .i64 10,oZ] _ 0 (ag bG hb4);change bodyPost _ _ _ _ _ (av w3 (w.heap.size+1) 0 [oZ,oZ,.int .i64 10,oZ]);clear dh cW cY;generalize av w3 (w.heap.size+1) 0 [oZ,oZ,.int .i64 10,oZ]=wz at *;have eO:=fun i=>af.cell dZ i;refine bodyPost_ret (v:=.tuple #[.slice A4 0 c4,.agg #[oZ,oZ,.int .i64 10,oZ]]) ?_ rfl (jy.of H1 HE lS fy);exact Zd
   ·obtain⟨j,rfl⟩:∃j,n=j+1:=⟨n-1,ae⟩
    obtain⟨ad,z,hA,hz,cz⟩:=bC.at_ HR (i:=j) (by rw[<-H1.out];omega);subst hA;have Nk:w2.cell? (ad.add j)=some (.int .i64 z):=(bG.cell (p:=ad.add j) (bc cz)).trans cz;obtain⟨r,hr⟩:=aD (l.take j);have ju:j=r.length:=by rw[hr,eW, <-H1.out];omega
    have HE:Hid (Mo.iZ l cap q=(r,⟨0,0,0,z⟩)):=by unfold Hid Mo.iZ;rw[ai ae,au (by rw[<-H1.out];omega),hr,List.dropLast_eq_take,List.getLastD_eq_getLast?,List.getLast?_eq_getElem?, <-H1.out,Nat.add_sub_cancel,hz];rfl
    have gu:=aa (fun w' (hb:Below w w w')=>gq w' (some ad) m r ju ae (by
     have:=(HR.below hb).take j;rw[<-hr]at this;exact this))
    have PA:=fun w'=>Bg (P:=prog) 22 3 underlying22 fc (some ad) (j+1) m j j rfl ae w';have xE:=aa ju;have hb1:Below w w w2.drew:=bG.drew;have hb2:Below w w (av w2.drew (w.heap.size+1) 0 [oZ,oZ,oZ,z]):=aw ae _ _ _ hb1;have hk2:af (av w2.drew (w.heap.size+1) 0 [oZ,oZ,oZ,z]) (w.heap.size+1) 48 #[oZ,oZ,oZ,z]:=aR HK rfl;have gR:af w2.drew (w.heap.size+1) 48 #[oZ,oZ,oZ,oZ]:=HK.out;have XR:w2.drew.cell? (ad.add j)=some (.int .i64 z):=Nk;have j1:(0:Int)<=(j:Int):=ae;have j2:(j:Int)<=1000:=ae;have hwj:IntKind.i64.wrap (j:Int)=j:=by unfold IntKind.wrap;simp[IntKind.bits,IntKind.signed];omega
    have j3:(j:Int)<(j:Int)+1:=ae;clear hz hr ju cz;go_wp2_with fail;go_region_law(first
     |(go_simp;go_at_call 62;refine(gu _ (by first|exact hb1|exact hb2)).mono ?_;rintro e w3 ⟨A4,c4,rfl,KD,rY,hb4⟩;(try have aen:w3.cell? (ad.add j)=some (.int .i64 z):=(hb4.cell (p:=ad.add j) (bc XR)).trans XR);(first|(have hk3:af w3 (w.heap.size+1) 48 #[oZ,oZ,oZ,oZ]:=gR.ag hb4;have XO:=fun i=>af.cell hk3 i;have XP:=fun i=>af.free hk3 i;have XQ:=hk3.lt)|(have hk3:=hk2.ag hb4));go_wp2_with fail))
    all_goals
     clear Nk XR jG si hgr fU km;go_wp2_with fail;first
      |(have dZ:af (av w3 (w.heap.size+1) 0 [oZ,oZ,oZ,z]) (w.heap.size+1) 48 #[oZ,oZ,oZ,z]:=aR hk3 rfl
        have lS:=jy.own (rY.weak (base':=w.heap.size) hb1.size) hk3 [oZ,oZ,oZ,z]
        have fy:=aw (B:=w.heap.size) (g:=w.heap.size+1) ae [oZ,oZ,oZ,z] _ 0 (ag hb1 hb4)
        change bodyPost _ _ _ _ _ (av w3 (w.heap.size+1) 0 [oZ,oZ,oZ,z])
        clear XO XP XQ
        generalize av w3 (w.heap.size+1) 0 [oZ,oZ,oZ,z]=wz at *
        have eO:=fun i=>af.cell dZ i
        refine bodyPost_ret (v:=.tuple #[.slice A4 j c4,.agg #[oZ,oZ,oZ,z]]) ?_ rfl (jy.of xE HE lS fy)
        simp[results,results268,go_sem,eO])
      |(have eO:=fun i=>af.cell hk3 i
        refine bodyPost_ret (v:=.tuple #[.slice A4 j c4,.agg #[oZ,oZ,oZ,z]]) ?_ rfl (jy.of xE HE (rY.weak (base':=w.heap.size) hb2.size) (ag hb2 hb4))
        simp[results,results268,go_sem,eO])
  ·by_cases h5:q.kind=5
   ·have HE:Hid (Mo.iZ l cap q=(l,⟨0,0,0,n⟩)):=by unfold Hid Mo.iZ;rw[ai ae,ai ae,ai ae,au h5,H1.out]
    go_wp2_with fail;refine(HC _ bG).mono ?_;rintro e w3 ⟨A4,c4,rfl,KD,rY,hb4⟩;have jm:=(HK.ag hb4)
    obtain⟨dh,cW,cY⟩:=af.aK jm;go_wp2_with fail;have dZ:=aR (vs:=[oZ,oZ,oZ,n]) jm rfl;have lS:=jy.own (rY.weak (base':=w.heap.size) bG.size) jm [oZ,oZ,oZ,n];have fy:=aw (B:=w.heap.size) (g:=w.heap.size+1) ae [oZ,oZ,oZ,n] _ 0 (ag bG hb4);change bodyPost _ _ _ _ _ (av w3 (w.heap.size+1) 0 [oZ,oZ,oZ,n]);clear dh cW cY;generalize av w3 (w.heap.size+1) 0 [oZ,oZ,oZ,n]=wz at *;have eO:=fun i=>af.cell dZ i;refine bodyPost_ret (v:=.tuple #[.slice A4 n c4,.agg #[oZ,oZ,oZ,n]]) ?_ rfl (jy.of H1 HE lS fy);exact Zd
   ·by_cases h6:q.kind=6
    ·have HE:Hid (Mo.iZ l cap q=(l,⟨0,0,0,cap⟩)):=by unfold Hid Mo.iZ;rw[ai ae,ai ae,ai ae,ai h5,au h6]
     go_wp2_with fail;refine(HC _ bG).mono ?_;rintro e w3 ⟨A4,c4,rfl,KD,rY,hb4⟩;have jm:=(HK.ag hb4)
     obtain⟨dh,cW,cY⟩:=af.aK jm;go_wp2_with fail;have dZ:=aR (vs:=[oZ,oZ,oZ,cap]) jm rfl;have lS:=jy.own (rY.weak (base':=w.heap.size) bG.size) jm [oZ,oZ,oZ,cap];have fy:=aw (B:=w.heap.size) (g:=w.heap.size+1) ae [oZ,oZ,oZ,cap] _ 0 (ag bG hb4);change bodyPost _ _ _ _ _ (av w3 (w.heap.size+1) 0 [oZ,oZ,oZ,cap]);clear dh cW cY;generalize av w3 (w.heap.size+1) 0 [oZ,oZ,oZ,cap]=wz at *;have eO:=fun i=>af.cell dZ i;refine bodyPost_ret (v:=.tuple #[.slice A4 n c4,.agg #[oZ,oZ,oZ,cap]]) ?_ rfl (jy.of H1 HE lS fy);exact Zd
    ·have HE:Hid (Mo.iZ l cap q=(l,⟨0,0,1,0⟩)):=by unfold Hid Mo.iZ;rw[ai ae,ai ae,ai ae,ai h5,ai h6];rfl
     go_wp2_with fail;refine(HC _ bG).mono ?_;rintro e w3 ⟨A4,c4,rfl,KD,rY,hb4⟩;have jm:=(HK.ag hb4)
     obtain⟨dh,cW,cY⟩:=af.aK jm;go_wp2_with fail;have dZ:=aR (vs:=[oZ,oZ,.int .i64 1,oZ]) jm rfl;have lS:=jy.own (rY.weak (base':=w.heap.size) bG.size) jm [oZ,oZ,.int .i64 1,oZ];have fy:=aw (B:=w.heap.size) (g:=w.heap.size+1) ae [oZ,oZ,.int .i64 1,oZ] _ 0 (ag bG hb4);change bodyPost _ _ _ _ _ (av w3 (w.heap.size+1) 0 [oZ,oZ,.int .i64 1,oZ]);clear dh cW cY;generalize av w3 (w.heap.size+1) 0 [oZ,oZ,.int .i64 1,oZ]=wz at *;have eO:=fun i=>af.cell dZ i;refine bodyPost_ret (v:=.tuple #[.slice A4 n c4,.agg #[oZ,oZ,.int .i64 1,oZ]]) ?_ rfl (jy.of H1 HE lS fy);exact Zd
end
def Fo(w:World)(x:Mo.Cl)(xv qv:Array Value)(n3:Nat)(s:Value)(wc:World):Prop:=∃p B3 d3,s=.pointer (some ⟨p,0,none⟩)/\af wc p 119 #[x.cap,oN,.slice B3 n3 d3]/\w.heap.size+2<p/\Hid (aI wc (w.heap.size+3) 48 4 dA (.slice B3 n3 d3) x.done)/\Hid (Below w w wc)/\Hid (af wc w.heap.size 119 xv)/\Hid (af wc (w.heap.size+1) 42 qv)/\Hid (af wc (w.heap.size+2) 119 #[oZ,oN,oN])
section
variable{w w0 w1:World} {x:Mo.Cl} {xv qv:Array Value} {n3 d3 p:Nat} {B3:Option Addr}
theorem Fo.last(h0:w0.heap.size=w.heap.size+3)(hb:Below w w w0)(hX:Ext w0 w1)(hO:aI w1 (w.heap.size+3) 48 4 dA (.slice B3 n3 d3) x.done)(kc:af w0 w.heap.size 119 xv)(kq:af w0 (w.heap.size+1) 42 qv)(kr:af w0 (w.heap.size+2) 119 #[oZ,oN,oN]) :
 Fo w x xv qv n3 (.pointer w1.heap.size) (w1.alloc (kQ x.cap none 0 0 B3 n3 d3)) :=
 ⟨_,B3,d3,rfl,af.new _ _ _,by have:=hX.out.size;omega,hO.alloc _,ag (ag hb hX.out) (ak (aj w1) _),(kc.ag hX.out).alloc _,(kq.ag hX.out).alloc _,(kr.ag hX.out).alloc _⟩
theorem Fo.mid(h0:w0.heap.size=w.heap.size+3)(hb:Below w w w0)(hX:Ext w0 w1)(hO:aI w1 (w.heap.size+3) 48 4 dA (.slice B3 n3 d3) x.done)(kc:af w0 w.heap.size 119 xv)(kq:af w0 (w.heap.size+1) 42 qv)(kr:af w0 (w.heap.size+2) 119 #[oZ,oN,oN])(hF:af w1 p 119 #[oZ,oN,oN])(hp:w0.heap.size<=p) :
 Fo w x xv qv n3 (.pointer p) (av w1 p 0 [x.cap,oN,.slice B3 n3 d3]) :=
 ⟨_,B3,d3,rfl,aR hF rfl,ae,bR (fun b hb e=>by subst e;exact aV hO hF ah hb.symm) _ _ _ _ hO,aw ae _ _ _ (ag hb hX.out),aW (kc.ag hX.out) ae _ _,aW (kq.ag hX.out) ae _ _,aW (kr.ag hX.out) ae _ _⟩
end
theorem Al.ext{z:Mo.Cl}{e:Ending}(h:Al z w e w1)(o:Obj):Al z w e (w1.alloc o):=by obtain⟨A1,A3,m1,m3,he,ho,hb⟩:=h;exact⟨A1,A3,m1,m3,he,ho.more (ak (aj w1) o),ag hb (ak (aj w1) o)⟩
section
variable(w:World)
theorem Fp{x:Mo.Cl}(h1:n1=x.list.length)(h3:n3=x.done.length)(l1:n1<=1000)(l3:n3<=1000)(PF:n1<=m1)(r1:bC w .i64 A1 x.list)(r3:cN w dA A3 x.done)(t s:Int)(ht:0<=t/\t<n3)(q:Mo.Rq)(D:Option Addr)(ql qd:Nat) :
 Calls prog 256 #[.agg #[x.cap,.slice A1 n1 m1,.slice A3 n3 m3],t,s,.agg #[q.kind,q.arg,q.value,q.dflt,.slice D ql qd]] w (Al (Mo.lX x t s q) w):=by
 have pY:=aa (fun wx (hb:Below w w wx)=>qB wx A3 m3 x.done h3 (by omega) (r3.below hb))
 have HST:=aa (fun wx (hb:Below w w wx)=>JX wx x.list A1 (m:=m1) h1 l1 PF (r1.below hb) x.cap q D ql qd)
 have H3:=aa h3
 obtain⟨j,hj⟩:∃j:Nat,t=j:=⟨t.toNat,by omega⟩
 subst hj
 clear r1 r3 h1 h3
 have bG:Hid (Below w w (((w.alloc (kQ x.cap A1 n1 m1 A3 n3 m3)).alloc (iG q D ql qd)).alloc DU)):=ak (ak (ak (aj w) _) _) _
 have oh:Hid (af (((w.alloc (kQ x.cap A1 n1 m1 A3 n3 m3)).alloc (iG q D ql qd)).alloc DU) w.heap.size 119 #[x.cap,.slice A1 n1 m1,.slice A3 n3 m3]):=((af.new _ _ _).alloc _).alloc _
 have uV:Hid (af (((w.alloc (kQ x.cap A1 n1 m1 A3 n3 m3)).alloc (iG q D ql qd)).alloc DU) (w.heap.size+1) 42 #[q.kind,q.arg,q.value,q.dflt,.slice D ql qd]):=(af.newAt _ _ _ (by simp)).alloc _
 have pw:Hid (af (((w.alloc (kQ x.cap A1 n1 m1 A3 n3 m3)).alloc (iG q D ql qd)).alloc DU) (w.heap.size+2) 119 #[oZ,oN,oN]):=(af.newAt _ _ _ (by simp))
 have lR:(((w.alloc (kQ x.cap A1 n1 m1 A3 n3 m3)).alloc (iG q D ql qd)).alloc DU).heap.size=w.heap.size+3:=by simp
 obtain⟨w0,hw0⟩:∃w0,w0=(((w.alloc (kQ x.cap A1 n1 m1 A3 n3 m3)).alloc (iG q D ql qd)).alloc DU):=⟨_,rfl⟩
 go_enter func256,ntmps256
 go_wp2_with fail
 rw[<-hw0]at bG oh uV pw lR ⊢
 clear hw0
 have xA:=aa lR
 clear lR
 have Fh:=aa (fun wx (hx:Ext w0 wx)=>pY.out wx (ag bG.out hx.out))
 have hcc:=fun wx (hx:Ext w0 wx) i=>af.cell (oh.out.ag hx.out) i
 go_cut[9] (fun s9 wx=>Fo w x #[x.cap,.slice A1 n1 m1,.slice A3 n3 m3] #[q.kind,q.arg,q.value,q.dflt,.slice D ql qd] n3 s9 wx)
 case first =>
  go_region_held3(Ext w0) (with_reducible(repeat(first|assumption|exact Ext.start _|exact Ext.fZ _ _|refine Ext.alloc ?_ _|refine Ext.set ?_ (by simp;try omega)))) (first
   |((with_reducible refine(Fh.out _ (by assumption)).mono ?_);rintro e w1 ⟨B3,d3,rfl,Ub,hO,hb1⟩;have jX:=Ext.to (by assumption) hb1;have hs1:=jX.out.size;have sX:=hO.weak (base':=w.heap.size+3) (by have:=xA.out;first|(show w.heap.size+3<=w0.heap.size;omega)|(simp;omega));(try(have XS:af w1 w0.heap.size 119 #[oZ,oN,oN]:=(af.dr (af.new w0 _ _)).ag hb1;have aeo:=fun i=>af.cell XS i;have aep:=fun i=>af.free XS i;have aeq:=XS.lt))))
  all_goals
   go_wp2_with fail;go_meet;first
    |exact Fo.last xA.out bG.out jX sX oh.out uV.out pw.out
    |exact Fo.mid xA.out bG.out jX sX oh.out uV.out pw.out XS (aS _)
 case rest =>
  obtain⟨p,B3,d3,rfl,hP,hp,HO,HB,HKc',HKq',abw⟩:=hcut;have HP:=aa hP;clear hP oh uV pw bG Fh hcc pY xA;obtain⟨hcc,-,gH⟩:=af.aK HKc'.out;obtain⟨dh,-,cY⟩:=af.aK HKq'.out;go_wp2_with fail;(with_reducible refine(HST.out _ HB.out).mono ?_);rintro e w5 ⟨A5,m5,rfl,kv,di⟩;obtain⟨⟨l2,⟨a0,a1,a2,a3⟩⟩,hr⟩:∃z,z=Mo.iZ x.list x.cap q:=⟨_,rfl⟩
  rw[<-hr]at kv ⊢;have HR:=aa hr;obtain⟨nl,Sz⟩:∃nl,nl=l2.length:=⟨_,rfl⟩
  dsimp only[dA]at kv ⊢;rw[<-Sz]at kv ⊢;have SA:=aa Sz;obtain⟨g3,rfl,hg0,hg3⟩:=ze HO.out (fun h=>by have:=H3.out;rw[h]at this;simp at this;omega);have KV:=aa (HP.out.ag di);have iP:=aa (HO.out.ag di);have rL:=aa (kv.weak (base':=w.heap.size+3) (by have:=HP.out.lt;omega));have iW:=aa (ag HB.out di);have xD:=aa (abw.out.ag di);obtain⟨x3,hx3⟩:∃x3,x.done[j]?=some x3:=⟨_,cD (by have:=H3.out;omega)⟩
  have q0:=aI.cells cm iP.out hx3 (j:=0) rfl;have q1:=aI.cells cm iP.out hx3 (j:=1) rfl;have q2:=aI.cells cm iP.out hx3 (j:=2) rfl;have q3:=aI.cells cm iP.out hx3 (j:=3) rfl;rw[Nat.add_zero]at q0;have f0:=aI.frozen iP.out (j*4);have f1:=aI.frozen iP.out (j*4+1);have f2:=aI.frozen iP.out (j*4+2);have f3:=aI.frozen iP.out (j*4+3);have t0:(0:Int)<=(j:Int):=by omega
  have t1:(j:Int)<(n3:Int):=by omega
  have aU:g3≠p:=fun e=>by subst e;exact aV iP.out KV.out (by decide) rfl
  have hpg:p≠g3:=fun e=>aU e.symm;have g35:g3<w5.heap.size:=by have:=di.size;omega
  have aer:w.heap.size+2<g3:=by omega
  obtain⟨aA,bh,hgp5⟩:=af.aK KV.out;obtain⟨fU,hfk,km⟩:=af.aK xD.out;clear hr Sz kv di hx3 hcc gH dh cY HST HP HO HB abw HKc' HKq';go_wp2_with fail;have sY:w.heap.size+2≠p:=by omega
  have abx:=bB rL.out KV.out (by decide) 1 (.slice A5 nl m5);have aby:=bB iP.out KV.out (by decide) 1 (.slice A5 nl m5);have hK6:=xD.out.far (p:=⟨p,1,none⟩) sY (.slice A5 nl m5);have hB6:=iW.out.setCell (p:=⟨p,1,none⟩) (by show w.heap.size<=p;omega) (.slice A5 nl m5);generalize w5.setCell ⟨p,1,none⟩ (.slice A5 nl m5)=w6 at *;have vX:j<x.done.length:=by have:=H3.out;omega
  have hO7:uK (av w6 g3 (j*4) (dA ⟨s,a1,a2,a3⟩)) (w.heap.size+3) ⟨x.cap,l2,Mo.gY x.done j ⟨s,a1,a2,a3⟩⟩ A5 g3 nl n3 m5 d3:=by
   refine⟨bR (fun b hb e=>?_) _ _ _ _ abx,?_⟩
   ·subst e;exact cR abx aby (by decide) hb rfl
   ·unfold Mo.gY;dsimp only;rw[ai (by omega),fF];exact aI.setRow cm aby (i:=j) vX ⟨s,a1,a2,a3⟩ oV
  have hK7:=aW hK6 (b:=w.heap.size+2) (g:=g3) (by omega) (dA ⟨s,a1,a2,a3⟩) (j*4);have hB7:=aw (B:=w.heap.size) (g:=g3) (by omega) (dA ⟨s,a1,a2,a3⟩) _ (j*4) hB6;have KX:(Mo.gY x.done j ⟨s,a1,a2,a3⟩).length=n3:=by unfold Mo.gY;rw[ai (by omega),cK];exact H3.out.symm
  have hz:Mo.lX x j s q=⟨x.cap,l2,Mo.gY x.done j ⟨s,a1,a2,a3⟩⟩:=by unfold Mo.lX;rw[<-HR.out]
  have hF:=Al.fin (y:=⟨x.cap,l2,Mo.gY x.done j ⟨s,a1,a2,a3⟩⟩) (k1:=m5) (k3:=d3) (E1:=A5) (E3:=some ⟨g3,0,none⟩) hz (by dsimp only;rw[KX, <-SA.out];exact hO7) hK7 hB7;dsimp only at hF;rw[KX, <-SA.out]at hF;change bodyPost _ _ _ _ _ ((av (av w6 g3 (j*4) (dA ⟨s,a1,a2,a3⟩)) (w.heap.size+2) 0 [x.cap,.slice A5 nl m5,.slice g3 n3 d3]).alloc (pD s a1 a2 a3));have dZ:=hF.1.alloc (pD s a1 a2 a3);have hCz:=Al.ext hF.2 (pD s a1 a2 a3);clear hF aA bh hgp5 fU hfk km q0 q1 q2 q3 f0 f1 f2 f3;generalize((av (av w6 g3 (j*4) (dA ⟨s,a1,a2,a3⟩)) (w.heap.size+2) 0 [x.cap,.slice A5 nl m5,.slice g3 n3 d3]).alloc (pD s a1 a2 a3))=wz at *;have eO:=fun i=>af.cell dZ i;refine bodyPost_ret (v:=.agg #[x.cap,.slice A5 nl m5,.slice g3 n3 d3]) ?_ rfl hCz;simp[results,results256,go_sem,eO]
end
section
variable(w:World)
theorem CJ{c:Mo.bH}(hc:Mo.aN c=true){A:Option Addr}{n:Nat}(hn:n=c.start.length)(hr:bC w .i64 A c.start){A2:Option Addr}{m2:Nat}(ho:uJ w base h A1 A2 A3 h.chans.length h.waits.length h.done.length m1 m2 m3)(l1:h.chans.length<=100000)(l2:h.waits.length<=100000)(l3:h.done.length<=100000)(l4:∀x∈h.chans,x.buf.length<=100000)(l5:∀x∈h.waits,x.cases.length<=100000) :
 Calls prog 144 #[.agg #[c.kind,c.threads,c.chans,c.cap,c.nodes,c.aJ,c.aB,c.tags,c.bn,c.ba,.slice A n k],.agg #[h.ay,.slice A1 h.chans.length m1,.slice A2 h.waits.length m2,.slice A3 h.done.length m3]] w (sI (Mo.oq c h) w) :=
 BX w hc hn hr h A1 A2 A3 _ _ _ m1 m2 m3 rfl rfl rfl (S:=fun b=>b<w.heap.size) (fun b hb=>hb) (jF.mono b9 (fun b hb=>hb.lt) ho.ch.KR) (jF.mono aP (fun b hb=>hb.lt) ho.wt.KR) ⟨ho.dn.xO.2,fun ad ha hne=>by subst ha;exact(aX ho.dn rfl).2⟩ l1 l2 l3 l4 l5
theorem xd{c:Mo.bH}(hc:Mo.aN c=true){A:Option Addr}{n:Nat}(hn:n=c.start.length)(hr:bC w .i64 A c.start){x:Mo.Cl}(ho:uK w base x A1 A3 x.list.length x.done.length m1 m3)(l1:x.list.length<=100000)(l3:x.done.length<=100000) :
 Calls prog 146 #[.agg #[c.kind,c.threads,c.chans,c.cap,c.nodes,c.aJ,c.aB,c.tags,c.bn,c.ba,.slice A n k],.agg #[x.cap,.slice A1 x.list.length m1,.slice A3 x.done.length m3]] w (sI (Mo.kD c x) w) :=
 B8 w hc hn hr x A1 A3 _ _ m1 m3 rfl rfl (S:=fun b=>b<w.heap.size) (fun b hb=>hb) ⟨ho.ls.pU.2,fun ad ha hne=>by subst ha;exact(aX ho.ls rfl).2⟩ ⟨ho.dn.xO.2,fun ad ha hne=>by subst ha;exact(aX ho.dn rfl).2⟩ l1 l3
end
section
variable(w:World)
theorem Fq{c:Mo.bH}(hc:Mo.aN c=true){A:Option Addr}{n:Nat}(hn:n=c.start.length)(hr:bC w .i64 A c.start) :
 Calls prog 105 #[.agg #[c.kind,c.threads,c.chans,c.cap,c.nodes,c.aJ,c.aB,c.tags,c.bn,c.ba,.slice A n k]] w (sI (Mo.lg c) w):=by
 have hp:=Mo.aG hc
 have b1:0<=c.chans:=hp.2.2.2.2.2.2.2.1
 have b2:c.chans<=8:=hp.2.2.2.2.2.2.2.2
 have b3:1<=c.threads:=hp.1.1
 have b4:c.threads<=64:=hp.1.2
 have pn:=aa (fun wx (hx:Below w w wx)=>fG wx hc hn (hr.below hx) (k:=k))
 have Dn:=aa (fun wx (hk:c.kind=3) (hx:Below w w wx)=>Fi wx hc hk hn (hr.below hx) (k:=k))
 have Ze:=aa (fun wx=>Oo wx c.cap c.threads b3 b4)
 have HC:=aa hc;have HN:=aa hn;have HR:=aa hr
 clear hp hc hn hr
 have bG:Hid (Below w w (w.alloc (cr c A n k))):=ak (aj w) _
 have oh:Hid (af (w.alloc (cr c A n k)) w.heap.size 24 #[c.kind,c.threads,c.chans,c.cap,c.nodes,c.aJ,c.aB,c.tags,c.bn,c.ba,.slice A n k]):=(af.new _ _ _)
 go_enter func105,ntmps105
 go_wp2_with fail
 (with_reducible refine(pn.out _ bG.out).mono ?_)
 rintro e w1 ⟨rfl,hb1⟩
 have bj:=aa (ag bG hb1);have fh:=aa (oh.ag hb1)
 clear hb1 bG oh
 have hcc:=fun wx (hx:Ext w1 wx) i=>af.cell (fh.ag hx.out) i
 obtain⟨hcc0,-,gH⟩:=af.aK fh
 by_cases hk:c.kind=3
 ·have Cz:=aa (fun wx (hx:Ext w1 wx)=>Dn wx hk (ag bj hx.out));have HE:Hid (Mo.lg c=Mo.oq c (Mo.fW c)):=by unfold Hid Mo.lg;rw[ai (by rw[HC.out];decide),au hk]
  have rG:Hid ((Mo.fW c).chans.length<=100000/\(Mo.fW c).waits.length<=100000/\(Mo.fW c).done.length<=100000/\(∀x∈(Mo.fW c).chans,x.buf.length<=100000)/\∀x∈(Mo.fW c).waits,x.cases.length<=100000):=by
   unfold Hid Mo.fW;refine⟨by simp;omega,by simp;omega,by simp;omega,fun x hx=>?_,fun x hx=>?_⟩
   ·rcases List.mem_map.1 hx with⟨i,_,rfl⟩
    split<;>exact aY _
   ·rw[List.eq_of_mem_replicate hx];exact aY _
  obtain⟨h,hh⟩:=aD (Mo.fW c);rw[<-hh]at Cz rG HE;clear hh Dn Ze;have hk3:(c.kind==3)=true:=by rw[hk];rfl
  go_wp2_with fail;clear hk3 hk hcc0;go_region_held3(Ext w1) (with_reducible(repeat(first|assumption|exact Ext.start _|exact Ext.fZ _ _|refine Ext.alloc ?_ _))) (first
   |((with_reducible refine(Cz.out _ (by assumption)).mono ?_);rintro e w2 ⟨A1,A2,A3,m1,m2,m3,rfl,hO,hb2⟩;have uH:=Ext.to (by assumption) hb2;have HO:=aa hO;clear hO)
   |((with_reducible refine(CJ _ HC.out HN.out (HR.out.below (ag bj.out uH.out)) HO.out rG.out.1 rG.out.2.1 rG.out.2.2.1 rG.out.2.2.2.1 rG.out.2.2.2.2).mono ?_);rintro e w3 ⟨B3,d3,rfl,GS,hb3⟩;have vW:=Ext.to (by assumption) hb3))
  exact UK
 ·have HE:Hid (Mo.lg c=Mo.kD c ⟨c.cap,[],List.replicate c.threads.toNat Mo.dC⟩):=by unfold Hid Mo.lg;rw[ai (by rw[HC.out];decide),ai hk]
  have rG:Hid ((⟨c.cap,[],List.replicate c.threads.toNat Mo.dC⟩:Mo.Cl).list.length<=100000/\(⟨c.cap,[],List.replicate c.threads.toNat Mo.dC⟩:Mo.Cl).done.length<=100000):=by unfold Hid;refine⟨aY _,by simp;omega⟩
  obtain⟨x,hx⟩:∃x:Mo.Cl,x=⟨c.cap,[],List.replicate c.threads.toNat Mo.dC⟩:=⟨_,rfl⟩
  rw[<-hx]at Ze rG HE;clear hx Dn;have hk3:(c.kind==3)=false:=by rw[cq];exact hk
  go_wp2_with fail;clear hk3 hk hcc0;go_region_held3(Ext w1) (with_reducible(repeat(first|assumption|exact Ext.start _|exact Ext.fZ _ _|refine Ext.alloc ?_ _))) (first
   |((with_reducible refine(Ze.out _).mono ?_);rintro e w2 ⟨A1,A3,m1,m3,rfl,hO,hb2⟩;have uH:=Ext.to (by assumption) hb2;have HO:=aa hO;clear hO)
   |((with_reducible refine(xd _ HC.out HN.out (HR.out.below (ag bj.out uH.out)) HO.out rG.out.1 rG.out.2).mono ?_);rintro e w3 ⟨B3,d3,rfl,GS,hb3⟩;have vW:=Ext.to (by assumption) hb3))
  exact UK
end
theorem Mo.Fs{c:Mo.bH}{x:Mo.Cl}(h:Mo.ld c l=some x):x=Mo.cellsOf c l/\Mo.kD c x=l:=by
 unfold Mo.ld at h;split at h
 ·rename_i h1;simp only[dI,cU]at h1;injection h with h
  subst h;exact⟨rfl,h1.2⟩
 ·cases h
theorem Mo.CK{c:Mo.bH}(hc:Mo.aN c=true)(l:List Int):(Mo.cellsOf c l).list.length<=16/\(Mo.cellsOf c l).done.length=c.threads.toNat:=by have hp:=Mo.aG hc;unfold Mo.cellsOf;dsimp only;refine⟨?_,jR _ _ _ _⟩;rw[eK,eW,eW];have:=hp.2.2.2.2.2.2.1;omega
def mj(c:Mo.bH)(x:Mo.Cl)(t s:Int)(q:Mo.Rq):List Int:=Mo.kD c (if c.kind=2 then Mo.lX x t s q else Mo.fR x t s q)
def SB(c:Mo.bH)(l:List Int)(t s:Int)(q:Mo.Rq)(w:World)(e:Ending)(w':World):Prop :=
 (∃x,Mo.ld c l=some x/\(∃B d,e=.returned (.tuple #[.slice B (mj c x t s q).length d,true])/\aL w' w.heap.size 44 .u64 (.slice B (mj c x t s q).length d) (mj c x t s q))/\Below w w w') \/
 (Mo.ld c l=none/\e=.returned (.tuple #[oN,false])/\Below w w w')
theorem CL(d:List Mo.Rs)(t:Int)(r:Mo.Rs):(Mo.gY d t r).length=d.length:=by unfold Mo.gY;split<;>simp
theorem JY{x:Mo.Cl}(t s:Int)(q:Mo.Rq)(h1:x.list.length<=1000)(h3:x.done.length<=1000):(Mo.fR x t s q).list.length<=100000/\(Mo.fR x t s q).done.length<=100000:=by
 unfold Mo.fR;repeat' split
 all_goals simp[CL];omega
theorem JZ{x:Mo.Cl}(t s:Int)(q:Mo.Rq)(h1:x.list.length<=1000)(h3:x.done.length<=1000):(Mo.lX x t s q).list.length<=100000/\(Mo.lX x t s q).done.length<=100000:=by
 unfold Mo.lX Mo.iZ;repeat' split
 all_goals simp[CL];omega
section
variable(w:World)
theorem Fu{c:Mo.bH}(hc:Mo.aN c=true)(hk:c.kind≠3){A:Option Addr}{n:Nat}(hn:n=c.start.length)(hr:bC w .i64 A c.start)(l:List Int)(D:Option Addr)(dl dd:Nat)(jk:dl=l.length)(lu:(l.length:Int)=Mo.aZ c)(kg:dl<=dd)(hu:Mo.eH l)(hD:bC w .u64 D l)(t s:Int)(ht:0<=t/\t<c.threads)(q:Mo.Rq)(E0:Option Addr)(ql qd:Nat) :
 Calls prog 249 #[.agg #[c.kind,c.threads,c.chans,c.cap,c.nodes,c.aJ,c.aB,c.tags,c.bn,c.ba,.slice A n k],.slice D dl dd,t,s,.agg #[q.kind,q.arg,q.value,q.dflt,.slice E0 ql qd]] w (SB c l t s q w):=by
 have b3:1<=c.threads:=(Mo.aG hc).1.1
 have b4:c.threads<=64:=(Mo.aG hc).1.2
 have GL:=aa (fun wx (hx:Below w w wx)=>JV wx hc hk hn (hr.below hx) (k:=k) l D dl dd jk lu kg hu (hD.below hx))
 have HC:=aa hc;have HN:=aa hn;have HR:=aa hr
 clear jk lu kg hu hD hc hn hr
 have bG:Hid (Below w w ((w.alloc (cr c A n k)).alloc (iG q E0 ql qd))):=ak (ak (aj w) _) _
 have oh:Hid (af ((w.alloc (cr c A n k)).alloc (iG q E0 ql qd)) w.heap.size 24 #[c.kind,c.threads,c.chans,c.cap,c.nodes,c.aJ,c.aB,c.tags,c.bn,c.ba,.slice A n k]):=(af.new _ _ _).alloc _
 have uV:Hid (af ((w.alloc (cr c A n k)).alloc (iG q E0 ql qd)) (w.heap.size+1) 42 #[q.kind,q.arg,q.value,q.dflt,.slice E0 ql qd]):=(af.newAt _ _ _ aF)
 go_enter func249,ntmps249
 go_wp2_with fail
 (with_reducible refine(GL.out _ bG.out).mono ?_)
 rintro e w1 (⟨x,hx,A1,A3,m1,m3,rfl,hO,hb1⟩|⟨hx,rfl,hb1⟩)
 ·obtain⟨hx1,_⟩:=Mo.Fs hx;have xz:=Mo.CK HC l;rw[<-hx1]at xz;have rG:=aa xz;have HX:=aa hx;have bq:=aa (ag (ag bG hb1) (ak (aj w1) (kQ x.cap A1 x.list.length m1 A3 x.done.length m3)));have jv:=aa ((oh.ag hb1).alloc (kQ x.cap A1 x.list.length m1 A3 x.done.length m3));have gp:=aa ((uV.ag hb1).alloc (kQ x.cap A1 x.list.length m1 A3 x.done.length m3));have eu:=aa (hO.more (ak (aj w1) (kQ x.cap A1 x.list.length m1 A3 x.done.length m3)));have xG:Hid (af (w1.alloc (kQ x.cap A1 x.list.length m1 A3 x.done.length m3)) w1.heap.size 119 #[x.cap,.slice A1 x.list.length m1,.slice A3 x.done.length m3]):=af.new _ _ _;clear hx hx1 xz hO hb1 bG oh uV GL;go_upto_region 4 with fail
  obtain⟨p,hp⟩:=aD w1.heap.size;rw[<-hp]at xG ⊢;clear hp;generalize(w1.alloc (kQ x.cap A1 x.list.length m1 A3 x.done.length m3))=w2 at *;have hcc:=fun wx (hx:Ext w2 wx) i=>af.cell (jv.ag hx.out) i;have dh:=fun wx (hx:Ext w2 wx) i=>af.cell (gp.ag hx.out) i;have aA:=fun wx (hx:Ext w2 wx) i=>af.cell (xG.ag hx.out) i;obtain⟨hcc0,-,gH⟩:=af.aK jv;obtain⟨hcq0,-,cY⟩:=af.aK gp;obtain⟨hcp0,-,aU⟩:=af.aK xG;by_cases h2:c.kind=2
  ·have UL:=aa (fun wx (hx:Ext w2 wx)=>Fp wx (n1:=x.list.length) (n3:=x.done.length) (m1:=m1) (m3:=m3) rfl rfl (by have:=rG.out;omega) (by have:=rG.out;omega) (eu.ls.cap.2) ((eu.ls.ag hx.out).pU.2) ((eu.dn.ag hx.out).xO.2) t s (by have:=rG.out;omega) q E0 ql qd);have HE:Hid (mj c x t s q=Mo.kD c (Mo.lX x t s q)):=by unfold Hid mj;rw[au h2]
   have PD:Hid ((Mo.lX x t s q).list.length<=100000/\(Mo.lX x t s q).done.length<=100000):=JZ t s q (by have:=rG.out;omega) (by have:=rG.out;omega);have hk2:(c.kind==2)=true:=by rw[h2];rfl
   go_wp2_with fail;clear hk2 h2 hcc0 hcp0 hcq0;go_region_held3(Ext w2) (with_reducible(repeat(first|assumption|exact Ext.start _|exact Ext.fZ _ _|refine Ext.alloc ?_ _))) (first
    |((with_reducible refine(UL.out _ (by assumption)).mono ?_);rintro e w4 ⟨C1,C3,k1,k3,rfl,rY,hb4⟩;have UM:=Ext.to (by assumption) hb4;have kV:=aa rY;clear rY)
    |((with_reducible refine(xd _ HC.out HN.out (HR.out.below (ag bq.out UM.out)) kV.out PD.out.1 PD.out.2).mono ?_);rintro e w5 ⟨B5,d5,rfl,Dz,di⟩;have xb:=Ext.to (by assumption) di))
   all_goals
    go_wp2_with fail;refine bodyPost_ret (v:=.tuple #[.slice B5 (Mo.kD c (Mo.lX x t s q)).length d5,true]) ?_ rfl (.inl ⟨x,HX,⟨B5,d5,by rw[HE.out],by rw[HE.out];exact Dz.weak (bm bq.size UM.out.size)⟩,ag bq xb.out⟩);exact XT
  ·have UL:=aa (fun wx (hx:Ext w2 wx)=>Fm wx (n1:=x.list.length) (m1:=m1) (m3:=m3) rfl (by have:=rG.out;omega) (by have:=rG.out;omega) ((eu.ls.ag hx.out).pU.2) ((eu.dn.ag hx.out).xO.2) t s (by have:=rG.out;omega) q E0 ql qd);have HE:Hid (mj c x t s q=Mo.kD c (Mo.fR x t s q)):=by unfold Hid mj;rw[ai h2]
   have PD:Hid ((Mo.fR x t s q).list.length<=100000/\(Mo.fR x t s q).done.length<=100000):=JY t s q (by have:=rG.out;omega) (by have:=rG.out;omega);have hk2:(c.kind==2)=false:=by rw[cq];exact h2
   go_wp2_with fail;clear hk2 h2 hcc0 hcp0 hcq0;go_region_held3(Ext w2) (with_reducible(repeat(first|assumption|exact Ext.start _|exact Ext.fZ _ _|refine Ext.alloc ?_ _))) (first
    |((with_reducible refine(UL.out _ (by assumption)).mono ?_);rintro e w4 ⟨C1,C3,k1,k3,rfl,rY,hb4⟩;have UM:=Ext.to (by assumption) hb4;have kV:=aa rY;clear rY)
    |((with_reducible refine(xd _ HC.out HN.out (HR.out.below (ag bq.out UM.out)) kV.out PD.out.1 PD.out.2).mono ?_);rintro e w5 ⟨B5,d5,rfl,Dz,di⟩;have xb:=Ext.to (by assumption) di))
   all_goals
    go_wp2_with fail;refine bodyPost_ret (v:=.tuple #[.slice B5 (Mo.kD c (Mo.fR x t s q)).length d5,true]) ?_ rfl (.inl ⟨x,HX,⟨B5,d5,by rw[HE.out],by rw[HE.out];exact Dz.weak (bm bq.size UM.out.size)⟩,ag bq xb.out⟩);exact XT
 ·have bj:=aa (ag bG hb1);have HX:=aa hx;clear hx hb1;go_wp2_with fail;refine bodyPost_ret (v:=.tuple #[oN,false]) ?_ rfl (.inr ⟨HX,rfl,(bj).alloc bj.size _⟩);exact XT
end
section
variable(w:World)
theorem Fv(b:Bool):Calls prog 236 #[.bool b] w fun e w'=>e=.returned (.int .i64 (if b=true then -1 else 1))/\Below w.heap.size w w':=by
 cases b
 ·exact UN
 ·exact UN
theorem tI{c:Mo.bH}(hc:Mo.aN c=true){A:Option Addr}{n:Nat}(hn:n=c.start.length)(hr:bC w .i64 A c.start)(l:List Int)(D:Option Addr)(dl dd:Nat)(jk:dl=l.length)(lu:(l.length:Int)=Mo.aZ c)(hD:bC w .u64 D l)(t:Nat)(ht:(t:Int)<c.threads) :
 Calls prog 166 #[.agg #[c.kind,c.threads,c.chans,c.cap,c.nodes,c.aJ,c.aB,c.tags,c.bn,c.ba,.slice A n k],.slice D dl dd,t] w fun e w'=>e=.returned (.int .u64 (Mo.j6 c l t))/\Below w w w':=by
 have hS:Mo.aZ c=Mo.dm c+c.threads:=by unfold Mo.aZ;rw[hc];rfl
 have hs2:=size_le hc
 have pn:=aa (fun wx (hx:Below w w wx)=>fG wx hc hn (hr.below hx) (k:=k))
 have iq:=aa (fun wx (hx:Below w w wx)=>yM wx hc hn (hr.below hx) (k:=k))
 have hp:=Mo.aG hc
 have hst:0<=Mo.dm c:=by
  unfold Mo.dm;have h1:=hp.2.2.2.2.2.2.1;have h2:=hp.2.2.2.2.2.2.2.1;have h3:0<=c.chans*(1+c.cap):=gO h2 ae;have h4:=hp.1.1;split
  ·omega
  ·split<;>omega
 obtain⟨m,hm⟩:∃m:Nat,Mo.dm c=m:=⟨(Mo.dm c).toNat,ae⟩
 obtain⟨ad,z,hA,hz,cz⟩:=bC.at_ hD (i:=m+t) ae
 subst hA
 have HE:Hid (Mo.j6 c l t=z):=by unfold Hid Mo.j6;rw[ai (by rw[hc];simp;omega),hm];unfold Mo.ax;rw[ai ae,show((m:Int)+(t:Int)).toNat=m+t by omega,eR,hz];rfl
 have t0:(0:Int)<=(t:Int):=ae
 have t1:(t:Int)<=64:=by have:=hp.1.2;omega
 have m1:(m:Int)<=3000:=ae
 have m0:(0:Int)<=(m:Int):=ae
 have hlt:(m:Int)+(t:Int)<(dl:Int):=ae
 rw[hm]at iq
 clear hz hst hp hs2 hS hc hn hr hD jk lu hm
 have bG:Hid (Below w w (w.alloc (cr c A n k))):=ak (aj w) _
 have oh:Hid (af (w.alloc (cr c A n k)) w.heap.size 24 #[c.kind,c.threads,c.chans,c.cap,c.nodes,c.aJ,c.aB,c.tags,c.bn,c.ba,.slice A n k]):=(af.new _ _ _)
 go_enter func166,ntmps166
 go_wp2_with fail
 refine(iq _ bG).mono ?_
 rintro e w1 ⟨rfl,hb1⟩
 have bj:=aa (ag bG hb1)
 have hcc:=fun i=>af.cell (oh.ag hb1) i
 have gH:=(oh.ag hb1).lt
 clear hb1
 go_wp2_with fail
 refine(pn _ bj).mono ?_
 rintro e w2 ⟨rfl,hb2⟩
 have bq:=aa (ag bj hb2)
 have eO:w2.cell? (ad.add (m+t))=_:=(bq.cell (p:=ad.add (m+t)) (bc cz)).trans cz
 clear hb2 hcc gH
 go_wp2_with fail
 go_ret
 exact⟨by rw[HE.out];rfl,bq⟩
end
theorem SC{c:Mo.bH}(F:Mo.oz c h)(Zf:c.threads<=19)(h8:c.chans<=8)(hc:Mo.aN c=true):RQ h:=by
 have hp:=Mo.aG hc;refine⟨by have:=F.Py;omega,by have:=F.Pz;omega,by have:=F.Gi;omega,fun x hx=>?_,fun x hx=>?_,fun x hx=>?_⟩
 ·exact UO
 ·have:=Mo.lv (F.wt x hx);omega
 ·have:=(Mo.cJ.1 (F.ch x hx)).1;omega
theorem CM{c:Mo.bH}(F:Mo.oz c h)(Zf:c.threads<=19)(hc:Mo.aN c=true){t:Int}(ht:t<c.threads):h.chans.length<=8/\h.waits.length<=19/\h.done.length<=19/\h.done.length=h.waits.length/\t<h.waits.length/\0<=h.ay/\h.ay<=4294967295/\c.ba<=4095/\c.chans<=8:=by
 have hp:=Mo.aG hc;have h1:=F.Py;have h2:=F.Pz;have h3:=F.Gi;have h4:=F.tick;have h5:c.ba<=4095:=by unfold Mo.aN Mo.mM at hc;simp only[dI]at hc;have:=hc.2;rw[ai (by rw[F.kind];decide),au F.kind]at this;simp only[dI,Mo.jW]at this;exact this.1.1.2.2
 have h6:=hp.2.2.2.2.2.2.2.2;refine⟨ae,ae,ae,ae,ae,h4.1,h4.2,h5,h6⟩
theorem J0{c:Mo.bH}(F:Mo.oz c h)(hc:Mo.aN c=true):h.chans.length<=100000/\h.waits.length<=100000/\h.done.length<=100000/\(∀x∈h.chans,x.buf.length<=100000)/\∀x∈h.waits,x.cases.length<=100000:=by
 have hp:=Mo.aG hc;refine⟨by have:=F.Py;omega,by have:=F.Pz;omega,by have:=F.Gi;omega,fun x hx=>?_,fun x hx=>?_⟩
 ·exact UO
 ·have:=Mo.lv (F.wt x hx);omega
section
variable(w:World)
theorem Fw{c:Mo.bH}(hc:Mo.aN c=true)(Zf:c.threads<=19){A:Option Addr}{n:Nat}(hn:n=c.start.length)(hr:bC w .i64 A c.start)(l:List Int)(D:Option Addr)(dl dd:Nat)(jk:dl=l.length)(lu:(l.length:Int)=Mo.aZ c)(kg:dl<=dd)(hu:Mo.eH l)(hD:bC w .u64 D l)(t s:Int)(q:Mo.Rq)(E0:Option Addr)(ql qd:Nat)(DA:ql=q.cases.length)(hqs:ql<=100000)(hq:cN w bk E0 q.cases) :
 Calls prog 237 #[.agg #[c.kind,c.threads,c.chans,c.cap,c.nodes,c.aJ,c.aB,c.tags,c.bn,c.ba,.slice A n k],.slice D dl dd,t,s,.agg #[q.kind,q.arg,q.value,q.dflt,.slice E0 ql qd]] w (sI (Mo.fu c l t s q) w):=by
 have hsz:=size_le hc
 have nh:Hid (∀wx,Below w w wx->Calls prog 77 #[.agg #[q.kind,q.arg,q.value,q.dflt,.slice E0 ql qd]] wx fun e w'=>e=.returned (Mo.bt q)/\Below wx wx w'):=fun wx hx=>by
  rw[DA]
  exact lq wx q.kind q.arg q.value q.dflt E0 qd q.cases ae (hq.below hx)
 have gu:=aa (fun wx (hx:Below w w wx)=>kR wx D dd l jk ae (hD.below hx))
 have HOC:=aa (fun wx (hk:c.kind≠3) (ht:0<=t/\t<c.threads) (hx:Below w w wx)=>Fu wx hc hk hn (hr.below hx) (k:=k) l D dl dd jk lu kg hu (hD.below hx) t s ht q E0 ql qd)
 have Om:=aa (fun wx (hk:c.kind=3) (hx:Below w w wx)=>JU wx hc hk hn (hr.below hx) (k:=k) l D dl dd jk lu kg hu (hD.below hx))
 have HQ:=aa (fun wx (hx:Below w w wx)=>hq.below hx)
 have HC:=aa hc;have HN:=aa hn;have HR:=aa hr;have pd:=aa jk;have HQL:=aa DA
 have bG:Hid (Below w w ((w.alloc (cr c A n k)).alloc (iG q E0 ql qd))):=ak (ak (aj w) _) _
 have oh:Hid (af ((w.alloc (cr c A n k)).alloc (iG q E0 ql qd)) w.heap.size 24 #[c.kind,c.threads,c.chans,c.cap,c.nodes,c.aJ,c.aB,c.tags,c.bn,c.ba,.slice A n k]):=(af.new _ _ _).alloc _
 have uV:Hid (af ((w.alloc (cr c A n k)).alloc (iG q E0 ql qd)) (w.heap.size+1) 42 #[q.kind,q.arg,q.value,q.dflt,.slice E0 ql qd]):=(af.newAt _ _ _ aF)
 clear jk lu kg hu hD hc hn hr hq DA hsz
 by_cases b0:t<0
 ·exact SD
 by_cases b1:c.threads<=t
 ·exact SD
 by_cases b2:s<0
 ·exact SD
 by_cases b3:1048575<s
 ·exact SD
 rcases cW:Mo.bt q with _|_
 ·have HE:Hid (Mo.fu c l t s q=l):=by unfold Hid Mo.fu;rw[au (.inr (.inr (.inr (.inr cW))))]
  rw[cW]at nh;go_enter func237,ntmps237;go_wp2_with fail;(with_reducible refine(nh.out _ bG.out).mono ?_);rintro e w1 ⟨rfl,hb1⟩;have bj:=aa (ag bG hb1);clear hb1;go_wp2_with fail;(with_reducible refine(gu.out _ bj.out).mono ?_);rintro e w2 ⟨B,d,rfl,_,ho,hb⟩;have HO:=aa ho;have yL:=aa (ag bj hb);clear ho hb;go_wp2_with fail;go_ret;exact⟨B,d,by rw[HE.out,pd.out];rfl,by rw[HE.out, <-pd.out];exact HO.weak bj.size,yL⟩
 rw[cW]at nh
 have SE:=aa cW
 clear cW
 go_enter func237,ntmps237
 go_wp2_with fail
 (with_reducible refine(nh.out _ bG.out).mono ?_)
 rintro e w1 ⟨rfl,hb1⟩
 have bj:=aa (ag bG hb1)
 have XU:=aa (oh.ag hb1);have XV:=aa (uV.ag hb1)
 obtain⟨hcc,-,gH⟩:=af.aK XU
 obtain⟨dh,-,cY⟩:=af.aK XV
 clear hb1 oh uV bG
 by_cases hk:c.kind=3
 ·have hk3:(c.kind !=3)=false:=by rw[hk];rfl
  have HRX:=aa (fun wx (hx:Below w w wx)=>Om wx hk hx);have qE:=aa hk;clear Om HOC hk;go_wp2_with fail;(with_reducible refine(HRX.out _ bj.out).mono ?_);rintro e w2 (⟨h,hx,A1,A2,A3,m1,m2,m3,rfl,hO,hb2⟩|⟨hx,rfl,hb2⟩)
  ·have HF:=aa (Mo.sM hx);have HE:Hid (Mo.fu c l t s q=Mo.oq c (Mo.iA c h t s q)):=by unfold Hid Mo.fu;rw[ai (by rw[SE.out];simp;omega),ai (by rw[qE.out];decide),hx]
   have bq:=aa (ag (ag bj hb2) (ak (aj w2) (sB h.ay A1 h.chans.length m1 A2 h.waits.length m2 A3 h.done.length m3)));have jv:=aa ((XU.ag hb2).alloc (sB h.ay A1 h.chans.length m1 A2 h.waits.length m2 A3 h.done.length m3));have gp:=aa ((XV.ag hb2).alloc (sB h.ay A1 h.chans.length m1 A2 h.waits.length m2 A3 h.done.length m3));have eu:=aa (hO.more (ak (aj w2) (sB h.ay A1 h.chans.length m1 A2 h.waits.length m2 A3 h.done.length m3)));have xG:Hid (af (w2.alloc (sB h.ay A1 h.chans.length m1 A2 h.waits.length m2 A3 h.done.length m3)) w2.heap.size 71 #[h.ay,.slice A1 h.chans.length m1,.slice A2 h.waits.length m2,.slice A3 h.done.length m3]):=af.new _ _ _;clear hx hO hb2 hcc dh gH cY hk3;go_upto_region 11 with fail
   obtain⟨p,hp⟩:=aD w2.heap.size;rw[<-hp]at xG ⊢;clear hp;generalize(w2.alloc (sB h.ay A1 h.chans.length m1 A2 h.waits.length m2 A3 h.done.length m3))=w3 at *;have hcc:=fun wx (hx:Ext w3 wx) i=>af.cell (jv.ag hx.out) i;have dh:=fun wx (hx:Ext w3 wx) i=>af.cell (gp.ag hx.out) i;have aA:=fun wx (hx:Ext w3 wx) i=>af.cell (xG.ag hx.out) i;have gH:=jv.lt;have cY:=gp.lt;have aU:=xG.lt;have SF:Hid (h.chans.length<=8/\h.waits.length<=19/\h.done.length<=19/\h.done.length=h.waits.length/\t<h.waits.length/\0<=h.ay/\h.ay<=4294967295/\c.ba<=4095/\c.chans<=8):=CM HF Zf HC ae;have HA:=aa (Mo.sL HF (t:=t) (seq:=s) (q:=q) ae SE);have UL:=aa (fun wx (hx:Ext w3 wx)=>Fg wx (sq:=s) (t:=t) (A:=A) (n:=n) (k:=k) (c:=c) (h:=h) A1 A2 A3 _ _ _ m1 m2 m3 rfl rfl rfl ((eu.more hx.out).ch.KR) ((eu.more hx.out).wt.KR) ((eu.more hx.out).dn.xO.2) (SC HF Zf SF.2.2.2.2.2.2.2.2 HC) SF.2.2.2.2.2.2.2.1 q E0 ql qd HQL (HQ wx (ag bq hx.out)) SE SF.2.2.2.1 ae SF.2.2.2.2.1 ⟨SF.2.2.2.2.2.1,SF.2.2.2.2.2.2.1⟩ (by have h1:=(Mo.Bz HF (t:=t) (seq:=s) (q:=q) ae SE).1.Gi;have h2:=HF.Gi;omega));have Ae:Hid ((Mo.iA c h t s q).chans.length<=100000/\(Mo.iA c h t s q).waits.length<=100000/\(Mo.iA c h t s q).done.length<=100000/\(∀x∈(Mo.iA c h t s q).chans,x.buf.length<=100000)/\∀x∈(Mo.iA c h t s q).waits,x.cases.length<=100000):=J0 HA HC;obtain⟨h',hh'⟩:=aD (Mo.iA c h t s q);rw[<-hh']at UL Ae HE;clear hh' SF HA eu XU XV HRX;go_region_held3(Ext w3) (with_reducible(repeat(first|assumption|exact Ext.start _|exact Ext.fZ _ _|refine Ext.alloc ?_ _))) (first
    |((with_reducible refine(UL.out _ (by assumption)).mono ?_);rintro e w4 ⟨C1,C2,C3,k1,k2,k3,rfl,rY,hb4⟩;have UM:=Ext.to (by assumption) hb4;have kV:=aa rY;clear rY)
    |((with_reducible refine(CJ _ HC.out HN.out (HR.out.below (ag bq.out UM.out)) kV.out Ae.out.1 Ae.out.2.1 Ae.out.2.2.1 Ae.out.2.2.2.1 Ae.out.2.2.2.2).mono ?_);rintro e w5 ⟨B5,d5,rfl,Dz,di⟩;have xb:=Ext.to (by assumption) di))
   all_goals
    go_wp2_with fail;go_ret;exact⟨B5,d5,by rw[HE.out];rfl,by rw[HE.out];exact Dz.weak (bm bq.size UM.out.size),ag bq xb.out⟩
  ·have HE:Hid (Mo.fu c l t s q=l):=by unfold Hid Mo.fu;rw[ai (by rw[SE.out];simp;omega),ai (by rw[qE.out];decide),hx]
   have bq:=aa ((ag bj hb2).alloc (ag bj hb2).size yw);exact abz
 ·have hk3:(c.kind !=3)=true:=by rw[bne_iff_ne];exact hk
  have XW:=aa (fun wx (hx:Below w w wx)=>HOC wx hk ae hx);have qE:=aa hk;clear Om HOC hk;go_wp2_with fail;(with_reducible refine(XW.out _ bj.out).mono ?_);rintro e w2 (⟨x,hx,⟨B,d,rfl,hO⟩,hb2⟩|⟨hx,rfl,hb2⟩)
  ·have HE:Hid (Mo.fu c l t s q=mj c x t s q):=by unfold Hid Mo.fu;rw[ai (by rw[SE.out];simp;omega),au qE.out,hx];rfl
   have HO:=aa hO;have bq:=aa (ag bj hb2);clear hx hO hb2;go_wp2_with fail;go_ret;exact⟨B,d,by rw[HE.out];rfl,by rw[HE.out];exact HO.weak bj.size,bq⟩
  ·have HE:Hid (Mo.fu c l t s q=l):=by unfold Hid Mo.fu;rw[ai (by rw[SE.out];simp;omega),au qE.out,hx]
   have bq:=aa (ag bj hb2);exact abz
end
def KY:qN Mo.Op:=fun w S r x=>∃B d,r=[.int .i64 x.th,.int .i64 x.seq,.int .i64 x.phase,.int .i64 x.aQ.kind,.int .i64 x.aQ.arg,.int .i64 x.aQ.value,.bool x.aQ.dflt,.slice B x.aQ.cases.length d]/\dv w S bk B x.aQ.cases
theorem jz:Good KY:=⟨fun hs ⟨B,d,h1,h3⟩=>⟨B,d,h1,h3.mono hs⟩,fun hs ⟨B,d,h1,h3⟩=>⟨B,d,h1,h3.same hs⟩⟩
theorem Mo.J1(c:Mo.bH)(l:List Int){ops:List Mo.Op}{j:Nat}{x:Mo.Op}(h:ops[j]?=some x):Mo.ot c l (ops.take (j+1))=Mo.fu c (Mo.ot c l (ops.take j)) x.th x.seq x.aQ:=by unfold Mo.ot;rw[fz h,List.foldl_append];rfl
section
variable(w:World)
theorem Oq{c:Mo.bH}(hc:Mo.aN c=true)(Zf:c.threads<=19){A:Option Addr}{n:Nat}(hn:n=c.start.length)(hr:bC w .i64 A c.start)(l:List Int)(D:Option Addr)(dl dd:Nat)(jk:dl=l.length)(lu:(l.length:Int)=Mo.aZ c)(hu:Mo.eH l)(hD:bC w .u64 D l)(ops:List Mo.Op)(B:Option Addr)(bl bd:Nat)(hbl:bl=ops.length)(nP:bl<=100000)(hS:∀b,S b->b<w.heap.size)(ho:jF 8 KY w S B ops)(hcs:∀x∈ops,x.aQ.cases.length<=100000) :
 Calls prog 209 #[.agg #[.int .i64 c.kind,.int .i64 c.threads,.int .i64 c.chans,.int .i64 c.cap,.int .i64 c.nodes,.int .i64 c.aJ,.int .i64 c.aB,.int .i64 c.tags,.int .i64 c.bn,.int .i64 c.ba,.slice A n k],.slice D dl dd,.slice B bl bd] w (sI (Mo.ot c l ops) w):=by
 have hsz:=size_le hc
 have gu:=aa (fun wx (hx:Below w.heap.size w wx)=>kR wx D dd l jk ae (hD.below hx))
 have HAP:=aa (fun wx (hx:Below w.heap.size w wx)=>Fw wx hc Zf hn (hr.below hx) (k:=k))
 have HO:=aa (fun wx (hx:Below w.heap.size w wx)=>ho.below jz hS hx)
 have Dn:=aa hcs;have kt:=aa hbl;have pd:=aa jk;have Eb:=aa lu;have HU:=aa hu
 have AR:=aa hS
 have bG:Hid (Below w.heap.size w (w.alloc (cr c A n k))):=ak (aj w) _
 have oh:Hid (af (w.alloc (cr c A n k)) w.heap.size 24 #[.int .i64 c.kind,.int .i64 c.threads,.int .i64 c.chans,.int .i64 c.cap,.int .i64 c.nodes,.int .i64 c.aJ,.int .i64 c.aB,.int .i64 c.tags,.int .i64 c.bn,.int .i64 c.ba,.slice A n k]):=(af.new _ _ _)
 clear jk lu hu hD hc hn hr ho hcs hbl hS hsz
 go_enter func209,ntmps209
 go_wp2_with fail
 refine(gu _ bG).mono ?_
 rintro e w1 ⟨B1,d1,rfl,_,eo,hb1⟩
 have jO:=aa eo;have bj:=aa (ag bG hb1);have fh:=aa (oh.ag hb1)
 clear eo hb1 oh
 go_wp2_with fail
 go_loopw[7,9,14] (fun o _ i wr=>∃(j:Nat) (D2:Option Addr) (d2:Nat),j<=bl/\i=.int .i64 j/\o=.slice D2 dl d2/\Hid (aL wr w.heap.size 44 .u64 (.slice D2 dl d2) (Mo.ot c l (ops.take j)))/\Hid (Below w.heap.size w wr)/\Hid (af wr w.heap.size 24 #[.int .i64 c.kind,.int .i64 c.threads,.int .i64 c.chans,.int .i64 c.cap,.int .i64 c.nodes,.int .i64 c.aJ,.int .i64 c.aB,.int .i64 c.tags,.int .i64 c.bn,.int .i64 c.ba,.slice A n k])) (fun _ _ i _=>bl-(intOf i).toNat)
 case atStart=>exact⟨0,B1,d1,aY _,rfl,rfl,jO.weak bG.size,bj,fh⟩
 case round =>
  obtain⟨j,D2,d2,hj,rfl,rfl,HD,HB,HK⟩:=hrel;obtain⟨fU,-,km⟩:=af.aK HK;by_cases hlt:j<bl
  ·obtain⟨ad,x,r,hA,hx,⟨E0,d,hr,aT⟩,ju,hcell⟩:=jF.at_ ah (HO wr HB) (i:=j) (by rw[<-kt.out];exact hlt);subst hA hr;have c0:=hcell 0 _ rfl;have c1:=hcell 1 _ rfl;have c2:=hcell 2 _ rfl;have c3:=hcell 3 _ rfl;have c4:=hcell 4 _ rfl;have c5:=hcell 5 _ rfl;have c6:=hcell 6 _ rfl;have c7:=hcell 7 _ rfl;rw[add_zero]at c0;rw[add_lit _ _ ah]at c1 c2 c3 c4 c5 c6 c7;have HE:Hid (Mo.ot c l (ops.take (j+1))=Mo.fu c (Mo.ot c l (ops.take j)) x.th x.seq x.aQ):=Mo.J1 c l hx;have HXC:=aa (Dn x (bP hx));obtain⟨M,hM⟩:=aD (Mo.ot c l (ops.take j));have Pw:Hid ((M.length:Int)=Mo.aZ c):=by unfold Hid;rw[hM];exact Mo.vI _ Eb
   have HMU:Hid (Mo.eH M):=by unfold Hid;rw[hM];exact Mo.Gq _ HU
   have xE:Hid (((Mo.ot c l (ops.take (j+1))).length:Int)=Mo.aZ c):=Mo.vI _ Eb;rw[<-hM]at HD HE;have Fh:=aa aT;have i1:(0:Int)<=(j:Int):=ae;have i2:(j:Int)<(bl:Int):=ae;have XX:=HD.cap;have lJ:=aa (ak (aj wr) (.cells #[.int .i64 x.th,.int .i64 x.seq,.int .i64 x.phase,.int .i64 x.aQ.kind,.int .i64 x.aQ.arg,.int .i64 x.aQ.value,.bool x.aQ.dflt,.slice E0 x.aQ.cases.length d] 66));have UL:=aa (HAP (wr.alloc (.cells #[.int .i64 x.th,.int .i64 x.seq,.int .i64 x.phase,.int .i64 x.aQ.kind,.int .i64 x.aQ.arg,.int .i64 x.aQ.value,.bool x.aQ.dflt,.slice E0 x.aQ.cases.length d] 66)) (ag HB lJ) M D2 dl d2 XX.1 Pw XX.2 HMU ((HD.ag lJ).pU.2) x.th x.seq x.aQ E0 x.aQ.cases.length d rfl HXC (Fh.1.below lJ));have HDM:=aa XX;clear hx hM aT hcell ju XX;go_wp2_with fail;refine UL.mono ?_;rintro e w2 ⟨D3,d3,rfl,yK,hb3⟩;have KX:(Mo.fu c M x.th x.seq x.aQ).length=dl:=by have h1:=xE.out;rw[HE.out]at h1;have h2:=HDM.out;have h3:=Pw.out;omega
   rw[KX]at yK ⊢;have iP:=aa (yK.weak (base':=w.heap.size) (by have:=HB.size;have:=lJ.size;omega));have bZ:=aa (ag (ag HB lJ) hb3);have qE:=aa (HK.ag (ag lJ hb3));clear yK hb3 KX fU km c0 c1 c2 c3 c4 c5 c6 c7;go_wp2_with fail;go_roundw;case rel=>exact⟨j+1,D3,d3,ae,by go_num,rfl,by unfold Hid;rw[HE.out];exact iP.out,bZ,qE⟩
   case measure=>simp[intOf];omega
  ·have HE:Hid (Mo.ot c l (ops.take j)=Mo.ot c l ops):=by unfold Hid;rw[List.take_of_length_le (by have:=kt.out;omega)]
   have XX:=HD.cap;go_wp2_with fail;go_ret;rw[<-HE.out];exact⟨D2,d2,by rw[<-XX.1];rfl,by rw[<-XX.1];exact HD.out,HB⟩
end
structure xe where
 op:Mo.Op
 B:Option Addr
 d:Nat
def ug(x:xe):List Value:=[x.op.th,x.op.seq,x.op.phase,x.op.aQ.kind,x.op.aQ.arg,x.op.aQ.value,x.op.aQ.dflt,.slice x.B x.op.aQ.cases.length x.d]
theorem gb(x:xe):(ug x).length=8:=rfl
theorem iQ(x:xe):∀u∈ug x,u.oneCell'=true:=by intro u hu;simp[ug]at hu;rcases hu with rfl|rfl|rfl|rfl|rfl|rfl|rfl|rfl<;>rfl
theorem xf{w:World}{S:Nat->Prop}:∀(rows:List (Row 8)) (xs:List Mo.Op),rows.length=xs.length->(∀(i:Nat) (r:Row 8) (x:Mo.Op),rows[i]?=some r->xs[i]?=some x->KY w S r.val x)->∃L:List xe,L.map (·.op)=xs/\rows=L.map (iM ug gb iQ)/\∀x∈L,dv w S bk x.B x.op.aQ.cases
 |[],[],_,_=>⟨[],rfl,rfl,fun _ h=>by cases h⟩
 |r::rows,x::xs,hl,h=>by
  obtain⟨L,h1,h2,h3⟩:=xf rows xs (by simpa using hl) (fun i r x a b=>h (i+1) r x a b)
  obtain⟨B,d,e,hr⟩:=h 0 r x rfl rfl
  refine⟨⟨x,B,d⟩::L,by rw[List.map_cons,h1],?_,fun y hy=>?_⟩
  ·rw[List.map_cons,h2];congr 1;exact Subtype.ext e
  ·rcases List.mem_cons.1 hy with rfl|hy
   ·exact hr
   ·exact h3 y hy
theorem aI.opX{L:List xe}(h:aI w base 66 8 ug v L)(hr:∀x∈L,dv w S bk x.B x.op.aQ.cases):aH 66 8 KY w base S v (L.map (·.op)):=by
 refine⟨L.map (iM ug gb iQ),aF,aI.rows.2 h,fun i r x a b=>?_⟩;rw[List.getElem?_map]at a b;cases hy:L[i]? with
 |none=>rw[hy]at a;cases a
 |some y =>
  rw[hy]at a b;injection a with a;injection b with b
  subst a b;exact⟨y.B,y.d,rfl,hr y (bP hy)⟩
theorem zf{α β:Type}(f:α->β)(lt:β->β->Bool)(x:α):∀l:List α,(Mo.iz (fun a b=>lt (f a) (f b)) x l).map f=Mo.iz lt (f x) (l.map f)
 |[]=>rfl
 |y::l=>by
  rw[Mo.iz,List.map_cons,Mo.iz]
  split
  ·rw[List.map_cons,zf f lt x l]
  ·rfl
theorem xg{α β:Type}(f:α->β)(lt:β->β->Bool):∀(l acc:List α),(l.foldl (fun acc x=>Mo.iz (fun a b=>lt (f a) (f b)) x acc) acc).map f=(l.map f).foldl (fun acc x=>Mo.iz lt x acc) (acc.map f)
 |[],_=>rfl
 |x::l,acc=>by rw[List.foldl_cons,xg f lt l,zf,List.map_cons,List.foldl_cons]
theorem Fx(f:α->β)(lt:β->β->Bool)(l:List α):(Mo.dF (fun a b=>lt (f a) (f b)) l).map f=Mo.dF lt (l.map f):=by unfold Mo.dF;rw[List.map_reverse,xg];rfl
def DD(a b:xe):Int:=if a.op.phase≠b.op.phase then(if a.op.phase<b.op.phase then -1 else 1)else if a.op.th≠b.op.th then(if a.op.th<b.op.th then -1 else 1)else 0
def KZ(a b:xe):Bool:=decide (DD a b<0)
theorem XY:KZ=fun a b=>(fun(a b:Mo.Op)=>if a.phase≠b.phase then decide (a.phase<b.phase)else decide (a.th<b.th)) a.op b.op:=by
 funext a b
 unfold KZ DD;by_cases h1:a.op.phase=b.op.phase
 ·by_cases h2:a.op.th=b.op.th
  ·simp[h1,h2]
  ·simp only[h1,ne_eq,not_true_eq_false,if_false,h2,not_false_eq_true,if_true];split
   ·rename_i h;simp[h]
   ·rename_i h;simp[h]
 ·simp only[ne_eq,h1,not_false_eq_true,if_true];split
  ·rename_i h;simp[h]
  ·rename_i h;simp[h]
structure Fy (w wr:World) (base g n c:Nat) (L:List xe):Prop where
 own:aI wr base 66 8 ug (.slice g n c) L
 rest:∀b,b<w.heap.size->b≠g->wr.heap[b]?=w.heap[b]?
 ext:Below base w wr
 low:base<=g
 lt:g<w.heap.size
theorem Fy.size{g n c:Nat}{L:List xe}(h:Fy w wr base g n c L):w.heap.size<=wr.heap.size:=h.ext.size
theorem Fy.more{g n c:Nat}{L:List xe}(h:Fy w wr base g n c L)(hb:Below wr wr w'):Fy w w' base g n c L:=⟨h.own.ag hb,fun b h1 h2=>(hb.block b (bF h1 h.size)).trans (h.rest b h1 h2),h.ext.trans (hb.mono (by have:=h.low;have:=h.lt;have:=h.size;omega)),h.low,h.lt⟩
theorem Fy.bb{g n c:Nat}{L:List xe}(h:Fy w wr base g n c L)(hi:i<L.length)(x:xe):Fy w (av wr g (i*8) (ug x)) base g n c (L.set i x):=by
 refine⟨?_,fun b hb hne=>(aM hne _ _).trans (h.rest b hb hne),aw h.low _ _ _ h.ext,h.low,h.lt⟩;have hn:=h.own.cap.1;subst hn;have h1:=aI.rows (h1:=gb) (h2:=iQ) |>.2 h.own
 unfold aI at h1;rw[eK]at h1;have h2:=rR (ug x) wr (i*8) _ h1;have h3:=tx (L.map (iM ug gb iQ)) i (iM ug gb iQ x) (by simpa using hi);refine aI.rows (h1:=gb) (h2:=iQ) |>.1 ?_
 unfold aI;rw[List.map_set,cK,eK, <-h3];exact h2
section
variable(w:World)
theorem CN(a b:xe):Calls prog 235 #[.agg #[a.op.th,a.op.seq,a.op.phase,a.op.aQ.kind,a.op.aQ.arg,a.op.aQ.value,a.op.aQ.dflt,.slice a.B a.op.aQ.cases.length a.d],.agg #[b.op.th,b.op.seq,b.op.phase,b.op.aQ.kind,b.op.aQ.arg,b.op.aQ.value,b.op.aQ.dflt,.slice b.B b.op.aQ.cases.length b.d]] w fun e w'=>e=.returned (DD a b)/\Below w w w':=by
 have kt:=aa (fun wx b=>Fv wx b);have bG:Hid (Below w w ((w.alloc (.cells #[a.op.th,a.op.seq,a.op.phase,a.op.aQ.kind,a.op.aQ.arg,a.op.aQ.value,a.op.aQ.dflt,.slice a.B a.op.aQ.cases.length a.d] 66)).alloc (.cells #[b.op.th,b.op.seq,b.op.phase,b.op.aQ.kind,b.op.aQ.arg,b.op.aQ.value,b.op.aQ.dflt,.slice b.B b.op.aQ.cases.length b.d] 66))):=ak (ak (aj w) _) _;by_cases h1:a.op.phase=b.op.phase
 ·have hp:(a.op.phase !=b.op.phase)=false:=by rw[h1];simp
  by_cases h2:a.op.th=b.op.th
  ·have hq:(a.op.th !=b.op.th)=false:=by rw[h2];simp
   have HE:Hid (DD a b=0):=by unfold Hid DD;rw[ai (by simpa using h1),ai (by simpa using h2)]
   clear h1 h2;go_enter func235,ntmps235;go_wp2_with fail;go_ret;exact⟨by rw[HE.out];rfl,bG⟩
  ·have hq:(a.op.th !=b.op.th)=true:=by simpa using h2
   rcases QC:decide (a.op.th<b.op.th)with _|_
   ·have HE:Hid (DD a b=1):=by unfold Hid DD;rw[ai (by simpa using h1),au h2];rw[ai (of_decide_eq_false QC)]
    exact abA
   ·have HE:Hid (DD a b=-1):=by unfold Hid DD;rw[ai (by simpa using h1),au h2];rw[au (of_decide_eq_true QC)]
    exact abA
 ·have hp:(a.op.phase !=b.op.phase)=true:=by simpa using h1
  rcases QC:decide (a.op.phase<b.op.phase)with _|_
  ·have HE:Hid (DD a b=1):=by unfold Hid DD;rw[au h1];rw[ai (of_decide_eq_false QC)]
   exact abB
  ·have HE:Hid (DD a b=-1):=by unfold Hid DD;rw[au h1];rw[au (of_decide_eq_true QC)]
   exact abB
def Ot(w:World)(base g n c:Nat)(L:List xe)(e:Ending)(w':World):Prop:=e=.returned (.tuple #[])/\Fy w w' base g n c L
theorem Fz{g n c:Nat}(D:List xe)(h:Fy w w base g n c D)(hl:n<=100000) :
 Calls prog 253 #[.slice g n c,oZ,n,.func (.func 235) #[] #[]] w (Ot w base g n c (Mo.dF KZ D)):=by
 have HN:Hid (n=D.length):=h.own.cap.1
 have H0:=aa h
 clear h
 go_enter func253,ntmps253
 go_wp2_with fail
 go_loopw[8] (fun i wr=>∃k:Nat,1<=k/\k<=n+1/\i=k/\Hid (Fy w wr base g n c (Mo.dF KZ (D.take k)++D.drop k))) (fun i _=>n+1-(intOf i).toNat)
 case atStart =>
  refine⟨1,aS _,ae,rfl,?_⟩;have:Mo.dF KZ (D.take 1)++D.drop 1=D:=by
   rcases D with _|⟨x,D⟩
   ·rfl
   ·rfl
  unfold Hid;rw[this];exact H0.out
 case round =>
  obtain⟨k,gR,hk,rfl,HS⟩:=hrel;by_cases hlt:k<n
  ·go_wp2_with fail;obtain⟨wo,hwo⟩:∃wo:World,wo=wr:=⟨_,rfl⟩
   subst hwo;go_loopw[9] (fun j wr=>∃(m:Nat) (L:List xe),m<=k/\j=m/\Hid (Jm KZ D k m L)/\Hid (Fy w wr base g n c L)) (fun j _=>(intOf j).toNat);case atStart=>exact⟨k,_,aS _,rfl,Jm.start (by rw[<-HN.out];exact hlt),HS⟩
   case round =>
    obtain⟨m,L,hm,rfl,HI,HL⟩:=hrel;rcases m with _|m
    ·go_wp2_with fail;go_quiet(fail);go_wp2_with fail;go_roundw;case rel =>
      refine⟨k+1,ae,ae,by go_num,?_⟩;rw[<-HI.out.stop (.inl rfl)];exact HL.more (bO (aj _) _)
     case measure=>simp[intOf];omega
    ·obtain⟨x,y,hxD,hx,hy,hyD⟩:=HI.read;have aT:=fun i u (hu:(ug x)[i]?=some u)=>aI.cells gb HL.own hx hu;have tA:=fun i u (hu:(ug y)[i]?=some u)=>aI.cells gb HL.own hy hu;have x0:=aT 0 _ rfl;have x1:=aT 1 _ rfl;have x2:=aT 2 _ rfl;have x3:=aT 3 _ rfl;have x4:=aT 4 _ rfl;have x5:=aT 5 _ rfl;have x6:=aT 6 _ rfl;have x7:=aT 7 _ rfl;have y0:=tA 0 _ rfl;have y1:=tA 1 _ rfl;have y2:=tA 2 _ rfl;have y3:=tA 3 _ rfl;have y4:=tA 4 _ rfl;have y5:=tA 5 _ rfl;have y6:=tA 6 _ rfl;have y7:=tA 7 _ rfl;rw[Nat.add_zero]at x0 y0;clear aT tA;have HX:=aa hx;have HY:=aa hy;have Dl:=bF HL.lt HL.size;have e1:IntKind.i64.wrap ((m:Int)+1-1)=m:=by rw[bK _ ae];omega
     have Lq:m+1<n:=ae;have UQ:Hid (m+1<L.length):=(List.getElem?_eq_some_iff.1 hx).1;clear hxD hx hy hyD;have t1:(0:Int)<=(m:Int)+1:=ae;have t2:((m:Int)+1).toNat=m+1:=ae;have t3:(m:Int)+1<(n:Int):=ae;have e2:IntKind.i64.wrap (m:Int)=m:=bK _ ae;have t4:(m:Int)<(n:Int):=ae;have t5:(0:Int)<=(m:Int):=ae;by_cases hcv:DD x y<0
     ·have d1:decide (DD x y<0)=true:=dg hcv;have WA:Hid (KZ x y=true):=d1;clear hcv;go_wp2_with fail;go_still_tail 14,(by kernel_rfl)
      change wpList _ _ _ _ _ wr.drew;have HLd:=aa (HL.more (aj wr).drew);clear x0 x1 x2 x3 x4 x5 x6 x7 y0 y1 y2 y3 y4 y5 y6 y7 Dl;generalize wr.drew=wd at *;go_wp2_with fail;refine(CN wd x y).mono ?_;rintro e w2 ⟨rfl,hb2⟩;have AJ:=aa (HLd.more hb2);clear hb2 HLd;have aT:=fun i u (hu:(ug x)[i]?=some u)=>aI.cells gb AJ.own HX hu;have tA:=fun i u (hu:(ug y)[i]?=some u)=>aI.cells gb AJ.own HY hu;have x0:=aT 0 _ rfl;have x1:=aT 1 _ rfl;have x2:=aT 2 _ rfl;have x3:=aT 3 _ rfl;have x4:=aT 4 _ rfl;have x5:=aT 5 _ rfl;have x6:=aT 6 _ rfl;have x7:=aT 7 _ rfl;have y0:=tA 0 _ rfl;have y1:=tA 1 _ rfl;have y2:=tA 2 _ rfl;have y3:=tA 3 _ rfl;have y4:=tA 4 _ rfl;have y5:=tA 5 _ rfl;have y6:=tA 6 _ rfl;have y7:=tA 7 _ rfl;rw[Nat.add_zero]at x0 y0;clear aT tA;have fg:=fun i=>aI.frozen AJ.own i;have hg2:=bF AJ.lt AJ.size;go_wp2_with fail;go_region;all_goals
       go_wp2_with fail;go_roundw;case rel=>exact⟨m,_,ae,rfl,HI.down HX HY WA,((AJ.bb UQ.out y).bb (by rw[cK];have:=UQ.out;omega) x).more (aj _).drew⟩
       case measure=>simp[intOf]
     ·have d1:decide (DD x y<0)=false:=bJ hcv;have WA:Hid (KZ x y=false):=d1;clear hcv;go_wp2_with fail;go_still_tail 14,(by kernel_rfl)
      change wpList _ _ _ _ _ wr.drew;have HLd:=aa (HL.more (aj wr).drew);clear x0 x1 x2 x3 x4 x5 x6 x7 y0 y1 y2 y3 y4 y5 y6 y7 Dl;generalize wr.drew=wd at *;go_wp2_with fail;refine(CN wd x y).mono ?_;rintro e w2 ⟨rfl,hb2⟩;have AJ:=aa (HLd.more hb2);clear hb2 HLd;go_wp2_with fail;go_roundw;case rel=>refine⟨k+1,ae,ae,by go_num,?_⟩;rw[<-HI.out.stop (.inr ⟨x,y,Nat.succ_pos m,HX.out,HY.out,WA.out⟩)];exact AJ.out
      case measure=>simp[intOf];omega
  ·exact Uo
theorem CO{g n c:Nat}(D:List xe)(h:Fy w w base g n c D)(hl:n<=19) :
 Calls prog 248 #[.slice g n c,n,.func (.func 235) #[] #[]] w (Ot w base g n c (Mo.dF KZ D)):=by
 have HI:=aa (Fz w D h ae)
 clear h
 have a1:¬(20:Int)<=n:=ae
 have a2:¬(20:Int)<n:=ae
 go_enter func248,ntmps248
 exact aaM
theorem J2{g n c:Nat}(D:List xe)(h:Fy w w base g n c D)(hl:n<=19) :
 Calls prog 234 #[.slice g n c,.func (.func 235) #[] #[]] w (Ot w base g n c (Mo.dF KZ D)):=by
 have HI:=aa (CO w D h hl)
 clear h
 go_enter func234,ntmps234
 exact Up
theorem FA(c:Nat)(A:Option Addr):Calls prog 253 #[.slice A 0 c,oZ,oZ,.func (.func 235) #[] #[]] w fun e w'=>e=.returned (.tuple #[])/\w'=w:=by go_enter func253,ntmps253;exact aaN
theorem CP(c:Nat)(A:Option Addr):Calls prog 248 #[.slice A 0 c,oZ,.func (.func 235) #[] #[]] w fun e w'=>e=.returned (.tuple #[])/\w'=w:=by
 have HI:=aa (FA w c A);go_enter func248,ntmps248;go_wp2_with fail;go_loopw[7,8] (fun a b wr=>a=oZ/\b=.int .i64 20/\Hid (wr=w)) (fun _ _ _=>0);case atStart=>exact⟨rfl,rfl,rfl⟩
 case round =>
  obtain⟨rfl,rfl,HW⟩:=hrel;have hw:=HW.out;subst hw;go_wp2_with fail;refine HI.mono ?_;rintro e w1 ⟨rfl,hs⟩;subst hs;go_wp2_with fail;go_loopw[6] (fun a wq=>a=.int .i64 20/\Hid (wq=w1)) (fun _ _=>0);case atStart=>exact⟨rfl,rfl⟩
  case round=>obtain⟨rfl,ng⟩:=hrel;have hw:=ng.out;subst hw;go_wp2_with fail;go_end0;exact⟨rfl,rfl⟩
theorem J3(c:Nat)(A:Option Addr):Calls prog 234 #[.slice A 0 c,.func (.func 235) #[] #[]] w fun e w'=>e=.returned (.tuple #[])/\Below w w w':=by have HI:=aa (CP w c A);go_enter func234,ntmps234;go_wp2_with fail;refine HI.mono ?_;rintro e w1 ⟨rfl,hs⟩;subst hs;go_wp2_with fail;go_end0;exact⟨rfl,aj _⟩
theorem FC(ops:List Mo.Op)(B:Option Addr)(bl bd:Nat)(hbl:bl=ops.length)(nP:bl<=19)(hS:∀b,S b->b<w.heap.size)(ho:jF 8 KY w S B ops) :
 Calls prog 208 #[.slice B bl bd] w fun e w'=>∃B' d,e=.returned (.slice B' bl d)/\aH 66 8 KY w' w.heap.size S (.slice B' bl d) (Mo.jq ops)/\Below w w w':=by
 obtain⟨rows,h1,h2,h3⟩:=ho
 obtain⟨L,l1,l2,l3⟩:=xf rows ops h1 h3
 subst l2
 have HC:=aa (vx w B bd (L.map (iM ug gb iQ)) (n:=bl) (by rw[<-h1]at hbl;exact hbl) ae h2)
 have HL:=aa l1;have HR:=aa l3;have kt:=aa hbl;have HS:=aa hS
 clear h1 h2 h3 l1 l3 hbl hS
 go_enter func208,ntmps208
 go_wp2_with fail
 refine HC.mono ?_
 rintro e w1 ⟨B1,d1,rfl,Gw,eo,hb1⟩
 have fN:=aI.rows.1 eo
 have bj:=aa hb1
 have UQ:bl=L.length:=fN.cap.1
 have HLl:=aa UQ
 rcases hz:bl with _|bz
 ·subst hz;have eu:=aa fN;clear eo fN hb1 UQ;go_wp2_with fail;refine(J3 _ _ _).mono ?_;rintro e w2 ⟨rfl,hb2⟩;have iP:=aa (eu.ag hb2);have bZ:=aa (ag bj hb2);clear hb2 eu;go_wp2_with fail;go_ret;have hn:L=[]:=List.eq_nil_of_length_eq_zero HLl.symm;have hm:ops=[]:=by have:=HL.out;rw[hn]at this;exact this.symm
  rw[hm];rw[hn]at iP;exact⟨B1,d1,rfl,aI.opX iP (fun _ h=>by cases h),bZ⟩
 ·obtain⟨g,cc,hv,hg0,hg1⟩:=fN.form (by intro e;rw[e]at UQ;simp at UQ;omega);injection hv with e1 e2 e3
  subst e1;have HSo:Hid (Fy w1 w1 w.heap.size g bl d1 L):=⟨fN,fun _ _ _=>rfl,Below.refl _ _,hg0,hg1⟩
  clear eo fN hb1 UQ e2 e3;rw[<-hz];have HZ:=aa (J2 w1 L HSo nP);clear hz;go_wp2_with fail;refine HZ.mono ?_;rintro e w2 ⟨rfl,hs⟩;have qR:=aa hs;clear hs;go_wp2_with fail;go_ret;have hO:=aI.opX qR.own (S:=S) (fun x hx=>by
   refine dv.same (fun b hb=>?_) (HR x (nc KZ L hx))
   have hlt:=HS.out b hb
   exact(qR.rest b (bF hlt bj.size) (by have:=qR.low;omega)).trans (bj.block b hlt))
  have hE:(Mo.dF KZ L).map (·.op)=Mo.jq ops:=by rw[XY,Fx (fun(x:xe)=>x.op) (fun(a b:Mo.Op)=>if a.phase≠b.phase then decide (a.phase<b.phase)else decide (a.th<b.th)),HL.out];rfl
  rw[hE]at hO;exact⟨_,d1,rfl,hO,bj.trans qR.ext⟩
end
theorem jF.same{P:qN α}{A:Option Addr}(g:Good P)(hs:Sm S w w')(ha:∀ad,A=some ad->xs≠[]->S ad.block)(h:jF m P w S A xs):jF m P w' S A xs:=by obtain⟨rows,h1,h2,h3⟩:=h;refine⟨rows,h1,Rd.same hs h2 fun ad he hne=>ha ad he ?_,fun i r x a b=>g.same hs (h3 i r x a b)⟩;rintro rfl;exact hne (by rw[List.eq_nil_of_length_eq_zero h1];rfl)
def pN(w:World)(S:Nat->Prop)(A:Option Addr)(xs:List Mo.Op):Prop:=jF 8 KY w S A xs/\∀ad,A=some ad->xs≠[]->S ad.block
theorem pN.move{A:Option Addr}{xs:List Mo.Op}(h:pN w S A xs)(hs:Sm S w w')(hm:∀b,S b->S' b):pN w' S' A xs:=⟨(h.1.same jz hs h.2).mono jz hm,fun ad h1 h2=>hm _ (h.2 ad h1 h2)⟩
theorem pN.nil(w:World)(S:Nat->Prop)(A:Option Addr):pN w S A []:=⟨jF.nil _ _ _ _ _,fun _ _ h=>absurd rfl h⟩
theorem cA.nil(w:World)(S:Nat->Prop)(k:IntKind)(A:Option Addr):cA w S k A []:=⟨bC.nil _ _ _,fun _ _ h=>absurd rfl h⟩
theorem dv.nil(w:World)(S:Nat->Prop)(f:α->List Value)(A:Option Addr):dv w S f A []:=⟨cN.nil _ _ _,fun _ _ h=>absurd rfl h⟩
structure Sl where
 A:Option Addr
 c:Nat
structure Sh where
 (cs bf nx ar fo se fr ol:Sl)
def dB:Sl:=⟨none,0⟩
structure mF (w:World) (S:Nat->Prop) (x:Mo.Tk) (s:Sh):Prop where
 cs:dv w S bk s.cs.A x.aQ.cases
 bf:cA w S .u64 s.bf.A x.buf
 nx:cA w S .u64 s.nx.A x.next
 ar:cA w S .u64 s.ar.A x.args
 fo:pN w S s.fo.A x.found
 se:cA w S .u64 s.se.A x.seen
 fr:dv w S eL s.fr.A x.az.free
 ol:dv w S js s.ol.A x.az.old
 lb:x.buf.length<=s.bf.c
 la:x.args.length<=s.ar.c
 lf:x.found.length<=s.fo.c
 ls:x.seen.length<=s.se.c
 lr:x.az.free.length<=s.fr.c
 lo:x.az.old.length<=s.ol.c
theorem mF.move{x:Mo.Tk}{s:Sh}(h:mF w S x s)(hs:Sm S w w')(hm:∀b,S b->S' b):mF w' S' x s:=⟨(h.cs.same hs).mono hm,(h.bf.same hs).mono hm,(h.nx.same hs).mono hm,(h.ar.same hs).mono hm,h.fo.move hs hm,(h.se.same hs).mono hm,(h.fr.same hs).mono hm,(h.ol.same hs).mono hm,h.lb,h.la,h.lf,h.ls,h.lr,h.lo⟩
structure Mm where
 g:Nat
 (vl vg vc:Value)
 G:List Acc
 C:List Int
 kp:Bool
def Mm.own(m:Mm)(b:Nat):Prop:=b=m.g\/m.vl.ownBlock=some b\/m.vg.ownBlock=some b\/m.vc.ownBlock=some b
structure xh (w:World) (m:Mm) (L:List Int) (q:Nat):Prop where
 mv:dD w 0 m.g m.vl m.vg m.vc L m.G m.C m.kp
 gl:m.G.length<=q
 cl:m.C.length<=64
theorem xh.lt{m:Mm}(h:xh w m L q)(hb:m.own b):b<w.heap.size:=by
 obtain⟨h1,h2,h3,h4⟩:=h.mv.uo;rcases hb with rfl|hb|hb|hb
 ·exact h1
 ·exact h2 b hb
 ·exact h3 b hb
 ·exact h4 b hb
theorem xh.more{m:Mm}(h:xh w m L q)(hb:Below w w w'):xh w' m L q:=⟨h.mv.ag hb,h.gl,h.cl⟩
theorem xh.same{m:Mm}(h:xh w m L q)(hs:∀b,m.own b->w'.heap[b]?=w.heap[b]?):xh w' m L q:=⟨⟨(hs _ (.inl rfl)).trans h.mv.blk,fj h.mv.words fun b hb=>hs b (.inr (.inl hb)),fj h.mv.log fun b hb=>hs b (.inr (.inr (.inl hb))),fj h.mv.counts fun b hb=>hs b (.inr (.inr (.inr hb))),h.mv.low⟩,h.gl,h.cl⟩
def Im(w:World)(X:Nat->Prop)(p:Nat)(m:Mm)(b:Nat):Prop:=b<w.heap.size/\b≠p/\¬m.own b/\¬X b
structure bV (w w':World) (p:Nat) (m m':Mm):Prop where
 jE:Below 0 w w'
 same:∀b,b<w.heap.size->b≠p->¬m.own b->w'.heap[b]?=w.heap[b]?
 own:∀b,m'.own b->m.own b\/w.heap.size<=b
 g:m'.g=m.g
section
variable{w w1 w':World} {p:Nat} {m m1 m':Mm} {X:Nat->Prop}
theorem bV.refl(w:World)(p:Nat)(m:Mm):bV w w p m m:=⟨Below.refl _ _,fun _ _ _ _=>rfl,fun _ h=>.inl h,rfl⟩
theorem bV.trans(h:bV w w1 p m m1)(k:bV w1 w' p m1 m'):bV w w' p m m' :=
 have hs:=h.jE.size
 ⟨h.jE.trans k.jE,fun b hb hp hm=>(k.same b ae hp fun hc=>(h.own b hc).elim hm fun hl=>by omega).trans (h.same b hb hp hm),fun b hb=>(k.own b hb).elim (fun h1=>h.own b h1) fun h1=>.inr ae,k.g.trans h.g⟩
theorem bV.ext(hb:Below w w w')(p:Nat)(m:Mm):bV w w' p m m:=⟨hb.mono (aY _),fun _ h _ _=>hb.block _ h,fun _ h=>.inl h,rfl⟩
theorem bV.put(hb:Below 0 w w')(hf:∀b,b<w.heap.size->b≠p->w'.heap[b]?=w.heap[b]?)(m:Mm):bV w w' p m m:=⟨hb,fun b h h1 _=>hf b h h1,fun _ h=>.inl h,rfl⟩
theorem bV.im(F:bV w w' p m m')(h:Im w X p m b):Im w' X p m' b:=⟨bF h.1 F.jE.size,h.2.1,fun k=>(F.own b k).elim h.2.2.1 fun l=>by have:=h.1;omega,h.2.2.2⟩
theorem bV.sm(F:bV w w' p m m'):Sm (Im w X p m) w w':=fun b h=>F.same b h.1 h.2.1 h.2.2.1
end
def bp(c:Mo.bH)(A:Option Addr)(n k g:Nat)(t:Int)(r:Mo.Rn)(s:Sh)(o:Sl):Array Value :=
 #[.int .i64 r.k.pc,.int .i64 r.k.seq,.int .i64 r.k.aQ.kind,.int .i64 r.k.aQ.arg,.int .i64 r.k.aQ.value,.bool r.k.aQ.dflt,.slice s.cs.A r.k.aQ.cases.length s.cs.c,.bool r.k.slow,.int .i64 r.k.round,.int .i64 r.k.i,.int .i64 r.k.j,.int .i64 r.k.cu,.int .i64 r.k.il,.bool r.k.all,.int .i64 r.k.base.ix,.int .i64 r.k.base.tag,.slice s.bf.A r.k.buf.length s.bf.c,.slice s.nx.A r.k.next.length s.nx.c,.int .u64 r.k.word,.slice s.ar.A r.k.args.length s.ar.c,.slice s.fo.A r.k.found.length s.fo.c,.slice s.se.A r.k.seen.length s.se.c,.int .i64 r.k.az.own.ix,.int .i64 r.k.az.own.tag,.slice s.fr.A r.k.az.free.length s.fr.c,.slice s.ol.A r.k.az.old.length s.ol.c,.int .i64 r.k.az.spent,.int .i64 r.k.res.seq,.int .i64 r.k.res.cs,.int .i64 r.k.res.code,.int .i64 r.k.res.value,.bool r.k.gF,.bool r.k.waits,.bool r.k.jr,
  .int .i64 c.kind,.int .i64 c.threads,.int .i64 c.chans,.int .i64 c.cap,.int .i64 c.nodes,.int .i64 c.aJ,.int .i64 c.aB,.int .i64 c.tags,.int .i64 c.bn,.int .i64 c.ba,.slice A n k,.pointer (some ⟨g,0,none⟩),.int .i64 t,.int .i64 r.note,.bool r.gF,.slice o.A r.ops.length o.c]
structure Zg (c:Mo.bH) (n:Nat) (t:Int):Prop where
 dL:Mo.aN c=true
 n:n=c.start.length
 th:c.threads<=4
 DF:Mo.bo c<=1048576
 t0:0<=t
 t1:t<c.threads
structure RN (w:World) (X:Nat->Prop) (p:Nat) (c:Mo.bH) (A:Option Addr) (n k:Nat) (t:Int) (m:Mm) (q:Nat) (r:Mo.Rn) (s:Sh) (o:Sl):Prop where
 blk:af w p 176 (bp c A n k m.g t r s o)
 mem:xh w m r.L q
 ln:(r.L.length:Int)=Mo.bo c
 cs:Zg c n t
 mp:¬m.own p
 mx:∀b,m.own b->¬X b
 xl:∀b,X b->b<w.heap.size
 cf:cA w (Im w X p m) .i64 A c.start
 tk:mF w (Im w X p m) r.k s
 op:pN w (Im w X p m) o.A r.ops
section
variable{w w':World} {X:Nat->Prop} {p:Nat} {c:Mo.bH} {A:Option Addr} {n k:Nat} {t:Int} {m m':Mm} {q q':Nat} {r r':Mo.Rn} {s s':Sh} {o o':Sl}
theorem RN.lt(H:RN w X p c A n k t m q r s o):p<w.heap.size:=H.blk.lt
theorem RN.step(H:RN w X p c A n k t m q r s o)(F:bV w w' p m m')(hK:af w' p 176 arr)(he:arr=bp c A n k m'.g t r' s' o')(hM:xh w' m' r'.L q')(hl':r'.L.length=r.L.length)(tk:mF w' (Im w' X p m') r'.k s')(op:pN w' (Im w' X p m') o'.A r'.ops):RN w' X p c A n k t m' q' r' s' o' :=
 have hl:=H.lt
 ⟨he▸hK,hM,hl'▸H.ln,H.cs,fun h=>(F.own p h).elim H.mp fun h=>by omega,fun b h hx=>(F.own b h).elim (fun h=>H.mx b h hx) fun h=>by have:=H.xl b hx;omega,fun b hx=>bF (H.xl b hx) F.jE.size,(H.cf.same F.sm).mono fun b h=>F.im h,tk,op⟩
theorem RN.tk'(H:RN w X p c A n k t m q r s o)(F:bV w w' p m m'):mF w' (Im w' X p m') r.k s:=H.tk.move F.sm fun b h=>F.im h
theorem RN.op'(H:RN w X p c A n k t m q r s o)(F:bV w w' p m m'):pN w' (Im w' X p m') o.A r.ops:=H.op.move F.sm fun b h=>F.im h
theorem RN.more(H:RN w X p c A n k t m q r s o)(hb:Below w w w'):RN w' X p c A n k t m q r s o :=
 have F:=bV.ext hb p m
 H.step F (H.blk.ag hb) rfl (H.mem.more hb) rfl (H.tk' F) (H.op' F)
theorem RN.abC(H:RN w X p c A n k t m q r s o)(hf:∀b,b<w.heap.size->b≠p->w'.heap[b]?=w.heap[b]?):xh w' m r.L q:=H.mem.same fun b hb=>hf b (H.mem.lt hb) fun e=>H.mp (e▸hb)
theorem Im.fresh(H:RN w X p c A n k t m q r s o)(h0:w.heap.size<=b)(h1:b<w'.heap.size):Im w' X p m b:=⟨h1,fun e=>by have:=H.lt;omega,fun h=>by have:=H.mem.lt h;omega,fun h=>by have:=H.xl b h;omega⟩
end
def fe(p:Nat)(w w':World):Prop:=Below 0 w w'/\∀b,b<w.heap.size->b≠p->w'.heap[b]?=w.heap[b]?
section
variable{w w1 w2:World} {p:Nat}
theorem fe.refl(w:World)(p:Nat):fe p w w:=⟨Below.refl _ _,fun _ _ _=>rfl⟩
theorem fe.set(h:fe p w w1)(i:Nat)(u:Value):fe p w (w1.setCell ⟨p,i,none⟩ u):=⟨h.1.setCell (p:=⟨p,i,none⟩) (aY _) u,fun b hb hp=>(dp _ _ _ _ hp).trans (h.2 b hb hp)⟩
theorem fe.more(h:fe p w w1)(k:Below w1 w1 w2):fe p w w2:=⟨h.1.trans (k.mono (aY _)),fun b hb hp=>(k.block b (bF hb h.1.size)).trans (h.2 b hb hp)⟩
theorem fe.alloc(h:fe p w w1)(o:Obj):fe p w (w1.alloc o):=h.more (ak (aj _) o)
theorem fe.drewN(h:fe p w w1)(j:Nat):fe p w (w1.drewN j):=h.more (bO (aj _) j)
theorem fe.drew(h:fe p w w1):fe p w w1.drew:=h.more (aj _).drew
theorem fe.fr(h:fe p w w1)(m:Mm):bV w w1 p m m:=bV.put h.1 h.2 m
theorem fe.far(h:fe p w w1){g:Nat}(hg:w.heap.size<=g)(i:Nat)(u:Value):fe p w (w1.setCell ⟨g,i,none⟩ u):=⟨h.1.setCell (p:=⟨g,i,none⟩) (aY _) u,fun b hb hp=>(dp _ _ _ _ (by show b≠g;omega)).trans (h.2 b hb hp)⟩
end
theorem RN.at_{c:Mo.bH}{A:Option Addr}{n:Nat}{t:Int}{m:Mm}{s s':Sh}{o o':Sl}(H:RN w X p c A n k t m q r s o)(hA:fe p w w')(hK:af w' p 176 arr)(he:arr=bp c A n k m.g t r' s' o')(hL:r'.L=r.L)(tk:mF w (Im w X p m) r'.k s')(op:pN w (Im w X p m) o'.A r'.ops):RN w' X p c A n k t m q r' s' o':=H.step (hA.fr m) hK he (hL▸H.abC hA.2) (by rw[hL]) (tk.move (hA.fr m).sm fun _ h=>(hA.fr m).im h) (op.move (hA.fr m).sm fun _ h=>(hA.fr m).im h)
theorem RN.acc{c:Mo.bH}{A:Option Addr}{n:Nat}{t:Int}{m:Mm}{s:Sh}{o:Sl}(H:RN w X p c A n k t m q r s o){a:Acc}(h:rP w 0 m.g m.vl m.vg m.vc L (rQ m.kp m.G a) (iv m.C t) m.kp w')(hl:L.length=r.L.length):∃m',RN w' X p c A n k t m' (q+1) {r with L:=L} s o/\bV w w' p m m':=by
 obtain⟨vg',sA,h1,h2,h3,h4,h5⟩:=h;have F:bV w w' p m ⟨m.g,m.vl,vg',sA,rQ m.kp m.G a,iv m.C t,m.kp⟩:=by exact abD
 have hp:w'.heap[p]?=w.heap[p]?:=h4 p H.lt (fun e=>H.mp (.inl e)) (fun e=>H.mp (.inr (.inl e))) (fun e=>H.mp (.inr (.inr (.inl e)))) (fun e=>H.mp (.inr (.inr (.inr e))));refine⟨_,H.step F (hp.trans H.blk) rfl ⟨h1,?_,DT t H.mem.cl⟩ hl (H.tk' F) (H.op' F),F⟩;have:=H.mem.gl;unfold rQ;dsimp only;split
 ·simp;omega
 ·omega
def bY(X:Nat->Prop)(p:Nat)(c:Mo.bH)(A:Option Addr)(n k:Nat)(t:Int)(m:Mm)(q:Nat)(r':Mo.Rn)(w:World)(e:Ending)(w':World):Prop:=e=.returned (.tuple #[])/\∃m' s' o',RN w' X p c A n k t m' q r' s' o'/\bV w w' p m m'
theorem bY.of{c:Mo.bH}{A:Option Addr}{n:Nat}{t:Int}{m:Mm}{s:Sh}{o:Sl}(H:RN w X p c A n k t m q r s o)(hA:fe p w w')(hK:af w' p 176 arr){s':Sh}{o':Sl}(he:arr=bp c A n k m.g t r' s' o')(hL:r'.L=r.L)(tk:mF w' (Im w' X p m) r'.k s')(op:pN w' (Im w' X p m) o'.A r'.ops):bY X p c A n k t m q r' w (.returned (.tuple #[])) w':=⟨rfl,m,s',o',H.step (hA.fr m) hK he (hL▸H.abC hA.2) (by rw[hL]) tk op,hA.fr m⟩
theorem bY.at_{c:Mo.bH}{A:Option Addr}{n:Nat}{t:Int}{m:Mm}{s:Sh}{o:Sl}(H:RN w X p c A n k t m q r s o)(hA:fe p w w')(hK:af w' p 176 arr){s':Sh}{o':Sl}(he:arr=bp c A n k m.g t r' s' o')(hL:r'.L=r.L)(tk:mF w (Im w X p m) r'.k s')(op:pN w (Im w X p m) o'.A r'.ops):bY X p c A n k t m q r' w (.returned (.tuple #[])) w':=⟨rfl,m,s',o',H.at_ hA hK he hL tk op,hA.fr m⟩
theorem af.jA{g:Nat}{t:TypeId}{cs:Array Value}(h:af w g t cs):af w.drew g t cs:=h
theorem af.of{g:Nat}{t:TypeId}{a b:Array Value}(h:af w g t a)(e:a=b):af w g t b:=e▸h
theorem bY.leaf{c:Mo.bH}{A:Option Addr}{n:Nat}{t:Int}{m:Mm}{s:Sh}{o:Sl}(H:RN w X p c A n k t m q r s o)(s':Sh)(o':Sl)(tk:mF w (Im w X p m) r'.k s')(op:pN w (Im w X p m) o'.A r'.ops)(hL:r'.L=r.L)(hA:fe p w w':=by with_reducible(repeat(first|apply fe.set|apply fe.drewN|apply fe.drew|apply fe.alloc|exact fe.refl _ _)))(hK:af w p 176 (bp c A n k m.g t r s o)->af w' p 176 (bp c A n k m.g t r' s' o'):=by intro h;apply af.of;(with_reducible(repeat(first|apply af.bb|apply af.drewN|apply af.jA|apply af.alloc|exact h)));rfl):bY X p c A n k t m q r' w (.returned (.tuple #[])) w':=bY.at_ H hA (hK H.blk) rfl hL tk op
theorem RN.leaf{c:Mo.bH}{A:Option Addr}{n:Nat}{t:Int}{m:Mm}{s:Sh}{o:Sl}(H:RN w X p c A n k t m q r s o)(s':Sh)(o':Sl)(tk:mF w (Im w X p m) r'.k s')(op:pN w (Im w X p m) o'.A r'.ops)(hL:r'.L=r.L)(hA:fe p w w':=by with_reducible(repeat(first|apply fe.set|apply fe.drewN|apply fe.drew|apply fe.alloc|exact fe.refl _ _)))(hK:af w p 176 (bp c A n k m.g t r s o)->af w' p 176 (bp c A n k m.g t r' s' o'):=by intro h;apply af.of;(with_reducible(repeat(first|apply af.bb|apply af.drewN|apply af.jA|apply af.alloc|exact h)));rfl):RN w' X p c A n k t m q r' s' o':=H.at_ hA (hK H.blk) rfl hL tk op
theorem bY.then{c:Mo.bH}{A:Option Addr}{n:Nat}{t:Int}{m m1:Mm}{e:Ending}(F:bV w w1 p m m1)(h:bY X p c A n k t m1 q r' w1 e w'):bY X p c A n k t m q r' w e w':=by obtain⟨h1,m',s',o',h2,h3⟩:=h;exact⟨h1,m',s',o',h2,F.trans h3⟩
section
variable{w:World} {X:Nat->Prop} {p:Nat} {c:Mo.bH} {A:Option Addr} {n k:Nat} {t:Int} {m:Mm} {q:Nat} {r:Mo.Rn} {s:Sh} {o:Sl}
def Zh(X:Nat->Prop)(p:Nat)(c:Mo.bH)(A:Option Addr)(n k:Nat)(t:Int)(m:Mm)(q:Nat)(r':Mo.Rn)(s:Sh)(o:Sl)(v:Value)(w:World)(e:Ending)(w':World):Prop:=e=.returned v/\∃m',RN w' X p c A n k t m' q r' s o/\bV w w' p m m'
theorem RN.DF(H:RN w X p c A n k t m q r s o):r.L.length<=2000000:=by have:=H.ln;have:=H.cs.DF;omega
theorem RN.word(H:RN w X p c A n k t m q r s o){a:Int}(h0:0<=a)(h1:a<Mo.bo c):∃j:Nat,a=j/\r.L[j]?=some (Mo.ax r.L a):=by
 obtain⟨j,rfl⟩:=Int.eq_ofNat_of_zero_le h0;have hj:j<r.L.length:=by have:=H.ln;omega
 refine⟨j,rfl,?_⟩;unfold Mo.ax;rw[ai ae,fF,eR,cD hj];rfl
theorem Mo.tJ(L:List Int)(j:Nat)(x:Int):Mo.setAt L j x=L.set j x:=by unfold Mo.setAt;rw[ai ae,fF]
theorem Ou(H:RN w X p c A n k t m q r s o)(hq:q<=900000)(a:Int)(h0:0<=a)(h1:a<Mo.bo c) :
 Calls prog 149 #[.pointer p,a] w (Zh X p c A n k t m (q+1) r s o (.int .u64 (Mo.ax r.L a)) w):=by
 obtain⟨j,rfl,hx⟩:=H.word h0 h1
 obtain⟨x,hxe⟩:∃x,x=Mo.ax r.L j:=⟨_,rfl⟩
 rw[<-hxe]at hx ⊢
 have HD:=aa (H.more (aj w).drew)
 have HL:=aa (MR _ 0 m.g m.vl m.vg m.vc r.L m.G m.C m.kp t j x HD.out.mem.mv HD.out.mem.cl (bm HD.out.mem.gl (by omega)) H.DF hx)
 have HF:Hid (bV w w.drew p m m):=bV.ext (aj w).drew p m
 have aU:=H.lt
 have HX:=aa hx
 have Am:w.drew.cell? ⟨p,45,none⟩=some (.pointer (some ⟨m.g,0,none⟩))/\w.drew.cell? ⟨p,46,none⟩=some (.int .i64 t):=⟨af.cell HD.out.blk 45,af.cell HD.out.blk 46⟩
 clear H hx h0 h1 hxe
 go_enter func149,ntmps149
 go_wp2_with fail
 go_region_held3(fun w'=>w'.cell? ⟨p,45,none⟩=some (.pointer (some ⟨m.g,0,none⟩))/\w'.cell? ⟨p,46,none⟩=some (.int .i64 t)) (assumption) (
  ((with_reducible refine HL.out.mono ?_);rintro e w1 ⟨rfl,hN⟩;obtain⟨m1,H1,F1⟩:=HD.out.acc hN (cK);have XZ:=af.cell H1.blk 45;have X0:=af.cell H1.blk 46;have hS1:w1.cell? ⟨p,45,none⟩=some (.pointer (some ⟨m.g,0,none⟩))/\w1.cell? ⟨p,46,none⟩=some (.int .i64 t):=⟨by rw[XZ,F1.g];rfl,X0⟩))
 all_goals
  rw[wJ HX.out]at H1;have HR:=aa H1;have p3:=aa (HF.out.trans F1);clear hN H1 F1 HL;go_wp2_with fail;go_ret;exact⟨rfl,m1,HR.out,p3.out⟩
theorem J4(H:RN w X p c A n k t m q r s o)(a:Int)(h0:0<=a)(h1:Mo.bo c<=a) :
 Calls prog 149 #[.pointer p,a] w (Zh X p c A n k t m (q+1) r s o (.int .u64 (Mo.ax r.L a)) w):=by
 have HE:Hid (Mo.ax r.L a=0):=by unfold Hid Mo.ax;rw[ai (by omega),eR,List.getElem?_eq_none (by have:=H.ln;omega)];rfl
 rw[HE.out]
 have hne:r.L≠[]:=by
  intro e;have h1:=H.ln;rw[e]at h1;have h2:=Mo.aG H.cs.dL;have h3:0<Mo.bo c:=by unfold Mo.bo;rw[ai (by rw[H.cs.dL];decide)];have h4:=na H.cs.dL;have h5:=kn H.cs.dL (i:=Mo.bI c) (by omega) (by omega);unfold Mo.bA;omega
  simp at h1;omega
 have HD:=aa (H.more (aj w).drew)
 have HL:=aa (MV _ 0 m.g m.vl m.vg m.vc r.L m.G m.C m.kp t a HD.out.mem.mv hne (.inr (by have:=H.ln;omega)))
 have HF:Hid (bV w w.drew p m m):=bV.ext (aj w).drew p m
 have aU:=H.lt
 have Am:w.drew.cell? ⟨p,45,none⟩=some (.pointer (some ⟨m.g,0,none⟩))/\w.drew.cell? ⟨p,46,none⟩=some (.int .i64 t):=⟨af.cell HD.out.blk 45,af.cell HD.out.blk 46⟩
 clear H h0 h1 hne HE
 go_enter func149,ntmps149
 go_wp2_with fail
 go_region_held3(fun w'=>w'.cell? ⟨p,45,none⟩=some (.pointer (some ⟨m.g,0,none⟩))/\w'.cell? ⟨p,46,none⟩=some (.int .i64 t)) (assumption) (
  ((with_reducible refine HL.out.mono ?_);rintro e w1 ⟨rfl,hN⟩;have H1:=HD.out.more hN;have hS1:w1.cell? ⟨p,45,none⟩=some (.pointer (some ⟨m.g,0,none⟩))/\w1.cell? ⟨p,46,none⟩=some (.int .i64 t):=⟨af.cell H1.blk 45,af.cell H1.blk 46⟩))
 all_goals
  have HR:=aa H1;have p3:=aa (HF.out.trans (bV.ext hN p m));clear hN H1 HL;go_wp2_with fail;go_ret;exact⟨rfl,m,HR.out.step (bV.refl _ _ _) HR.out.blk rfl ⟨HR.out.mem.mv,Nat.le_succ_of_le HR.out.mem.gl,HR.out.mem.cl⟩ rfl HR.out.tk HR.out.op,p3.out⟩
theorem cg(H:RN w X p c A n k t m q r s o)(hq:q<=900000)(a:Int)(h0:0<=a) :
 Calls prog 149 #[.pointer p,a] w (Zh X p c A n k t m (q+1) r s o (.int .u64 (Mo.ax r.L a)) w):=by
 by_cases h1:a<Mo.bo c
 ·exact Ou H hq a h0 h1
 ·exact J4 H a h0 ae
theorem eh(H:RN w X p c A n k t m q r s o)(hq:q<=900000)(a y:Int)(h0:0<=a)(h1:a<Mo.bo c) :
 Calls prog 150 #[.pointer p,a,.int .u64 y] w (Zh X p c A n k t m (q+1) (r.store a y) s o (.tuple #[]) w):=by
 obtain⟨j,rfl,hx⟩:=H.word h0 h1
 have HD:=aa (H.more (aj w).drew)
 have HL:=aa (Jd _ 0 m.g m.vl m.vg m.vc r.L m.G m.C m.kp t j _ y HD.mem.mv HD.mem.cl (bm HD.mem.gl ae) H.DF hx)
 obtain⟨aA,-,aU⟩:=af.aK H.blk
 unfold bp at aA
 clear H hx h0 h1
 go_enter func150,ntmps150
 go_wp2_with fail
 go_still_tail 10,(by kernel_rfl)
 change wpList _ _ _ _ _ w.drew
 clear aA aU
 obtain⟨wd,hwd⟩:=aD w.drew
 have HF:Hid (bV w wd p m m):=by rw[hwd];exact bV.ext (aj w).drew p m
 rw[<-hwd]at HD HL ⊢
 clear hwd
 go_wp2_with fail
 refine HL.mono ?_
 rintro e w1 ⟨rfl,hN⟩
 obtain⟨m1,H1,F1⟩:=HD.acc hN (cK)
 have HR:=aa H1;have p3:=aa (HF.trans F1)
 clear hN H1 F1 HL HD HF
 go_wp2_with fail
 go_end0
 refine⟨rfl,m1,?_,p3⟩
 unfold Mo.Rn.store
 rw[Mo.tJ]
 exact HR.out
theorem nu(H:RN w X p c A n k t m q r s o)(hq:q<=900000)(a want y:Int)(h0:0<=a)(h1:a<Mo.bo c) :
 Calls prog 170 #[.pointer p,a,.int .u64 want,.int .u64 y] w (Zh X p c A n k t m (q+1) (if Mo.ax r.L a=want then r.store a y else r) s o (Mo.ax r.L a==want) w):=by
 obtain⟨j,rfl,hx⟩:=H.word h0 h1
 obtain⟨x,hxe⟩:∃x,x=Mo.ax r.L j:=⟨_,rfl⟩
 rw[<-hxe]at hx ⊢
 obtain⟨nw,AY⟩:∃nw,(if x=want then y else x)=nw:=⟨_,rfl⟩
 obtain⟨ok,sS⟩:∃ok,(x==want)=ok:=⟨_,rfl⟩
 have HD:=aa (H.more (aj w).drew)
 have HL:=aa (MT _ 0 m.g m.vl m.vg m.vc r.L m.G m.C m.kp t j x want y nw ok HD.out.mem.mv HD.out.mem.cl (bm HD.out.mem.gl (by omega)) H.DF hx ⟨AY,sS⟩)
 have HF:Hid (bV w w.drew p m m):=bV.ext (aj w).drew p m
 have aU:=H.lt
 have HX:=aa hx;have HNW:=aa AY
 obtain⟨r2,hr2⟩:∃r2,r2=if x=want then r.store j y else r:=⟨_,rfl⟩
 rw[sS, <-hr2]
 have g9:=aa hr2
 have Am:w.drew.cell? ⟨p,45,none⟩=some (.pointer (some ⟨m.g,0,none⟩))/\w.drew.cell? ⟨p,46,none⟩=some (.int .i64 t):=⟨af.cell HD.out.blk 45,af.cell HD.out.blk 46⟩
 clear H hx h0 h1 hxe AY sS hr2
 go_enter func170,ntmps170
 go_wp2_with fail
 go_region_held3(fun w'=>w'.cell? ⟨p,45,none⟩=some (.pointer (some ⟨m.g,0,none⟩))/\w'.cell? ⟨p,46,none⟩=some (.int .i64 t)) (assumption) (
  ((with_reducible refine HL.out.mono ?_);rintro e w1 ⟨rfl,hN⟩;obtain⟨m1,H1,F1⟩:=HD.out.acc hN (cK);have XZ:=af.cell H1.blk 45;have X0:=af.cell H1.blk 46;have hS1:w1.cell? ⟨p,45,none⟩=some (.pointer (some ⟨m.g,0,none⟩))/\w1.cell? ⟨p,46,none⟩=some (.int .i64 t):=⟨by rw[XZ,F1.g];rfl,X0⟩))
 all_goals
  have HR:=aa H1;have p3:=aa (HF.out.trans F1);clear hN H1 F1 HL;go_wp2_with fail;go_ret;refine⟨rfl,m1,?_,p3.out⟩;have AY:=HNW.out;rw[g9.out];by_cases e:x=want
  ·rw[au e]at AY ⊢;subst AY;unfold Mo.Rn.store;rw[Mo.tJ];exact HR.out
  ·rw[ai e]at AY ⊢;subst AY;have:=HR.out;rw[wJ HX.out]at this;exact this
end
section
variable{w:World} {X:Nat->Prop} {p:Nat} {c:Mo.bH} {A:Option Addr} {n k:Nat} {t:Int} {m:Mm} {q:Nat} {r:Mo.Rn} {s:Sh} {o:Sl}
theorem xi(H:RN w X p c A n k t m q r s o):Calls prog 204 #[.pointer p] w (bY X p c A n k t m q (Mo.Rn.again c r) w):=by
 obtain⟨aA,bh,aU⟩:=af.aK H.blk;unfold bp at aA;have HH:=aa H;clear H;rcases hs:r.k.slow with _|_
 ·by_cases hr:c.aB<r.k.round
  ·have hE:Mo.Rn.again c r=r.pc 16:=by unfold Mo.Rn.again;rw[au ⟨hs,hr⟩]
   exact SG
  ·have hE:Mo.Rn.again c r=r.pc 3:=by unfold Mo.Rn.again;rw[ai (fun h=>hr h.2),ai (fun h=>by rw[hs]at h;cases h.1)]
   exact SG
 ·by_cases hr:3<r.k.round
  ·have hE:Mo.Rn.again c r=r.pc 19:=by unfold Mo.Rn.again;rw[ai (fun h=>by rw[hs]at h;cases h.1),au ⟨hs,hr⟩]
   exact SG
  ·have hE:Mo.Rn.again c r=r.pc 3:=by unfold Mo.Rn.again;rw[ai (fun h=>by rw[hs]at h;cases h.1),ai (fun h=>hr h.2)]
   exact SG
def VO(w:World)(p i:Nat):Value:=(w.cell? ⟨p,i,none⟩).getD oZ
structure RX (w:World) (p:Nat) (m:Mm) (lo hi:Nat) (wx:World):Prop where
 jE:Below 0 w wx
 eq:∀b,b<w.heap.size->b≠p->¬m.own b->wx.heap[b]?=w.heap[b]?
 pk:∃arr X1,af w p 176 X1/\af wx p 176 arr/\arr.size=X1.size/\∀i,i<lo\/hi<=i->arr[i]?=X1[i]?
section
variable{wx wy:World} {lo hi:Nat} {arr:Array Value}
theorem RX.start(h:af w p 176 arr)(m:Mm)(lo hi:Nat):RX w p m lo hi w.drew:=⟨(Below.refl 0 w).drew,fun _ _ _ _=>rfl,arr,arr,h,h,rfl,fun _ _=>rfl⟩
theorem RX.below(h:RX w p m lo hi wx)(hb:Below wx wx wy):RX w p m lo hi wy:=by obtain⟨a,a0,h1,h2,h3,h4⟩:=h.pk;exact⟨h.jE.trans (hb.mono (aY _)),fun b hb1 hp hm=>(hb.block b (bF hb1 h.jE.size)).trans (h.eq b hb1 hp hm),a,a0,h1,h2.ag hb,h3,h4⟩
theorem RX.alloc(h:RX w p m lo hi wx)(o:Obj):RX w p m lo hi (wx.alloc o):=h.below (ak (aj _) o)
theorem RX.set(h:RX w p m lo hi wx)(hi':lo<=i/\i<hi)(u:Value):RX w p m lo hi (wx.setCell ⟨p,i,none⟩ u):=by obtain⟨a,a0,h1,h2,h3,h4⟩:=h.pk;refine⟨h.jE.setCell (p:=⟨p,i,none⟩) (aY _) u,fun b hb hp hm=>(dp _ _ _ _ hp).trans (h.eq b hb hp hm),_,a0,h1,h2.bb i u,by rw[Array.size_setIfInBounds];exact h3,fun j hj=>?_⟩;rw[Array.getElem?_setIfInBounds_ne (by omega)];exact h4 j hj
theorem RX.far(h:RX w p m lo hi wx){g:Nat}(hg:w.heap.size<=g)(i:Nat)(u:Value):RX w p m lo hi (wx.setCell ⟨g,i,none⟩ u):=by obtain⟨a,a0,h1,h2,h3,h4⟩:=h.pk;exact⟨h.jE.setCell (p:=⟨g,i,none⟩) (aY _) u,fun b hb hp hm=>(dp _ _ _ _ (by show b≠g;omega)).trans (h.eq b hb hp hm),a,a0,h1,h2.far (by have:=h1.lt;show p≠g;omega) u,h3,h4⟩
theorem RX.cell(h:RX w p m lo hi wx)(hb:af w p 176 arr)(hi':i<lo\/hi<=i):wx.cell? ⟨p,i,none⟩=arr[i]?:=by
 obtain⟨a,a0,h1,h2,h3,h4⟩:=h.pk;have:a0=arr:=by unfold af at h1 hb;rw[h1]at hb;injection hb with hb;injection hb
 rw[af.cell h2 i,h4 i hi',this]
theorem RX.some_(h:RX w p m lo hi wx)(hb:af w p 176 arr)(hi':i<arr.size):wx.cell? ⟨p,i,none⟩=some (VO wx p i):=by
 unfold VO;obtain⟨a,a0,h1,h2,h3,h4⟩:=h.pk;have:a0=arr:=by unfold af at h1 hb;rw[h1]at hb;injection hb with hb;injection hb
 subst this;rw[af.cell h2 i,Array.getElem?_eq_getElem (by rw[h3];exact hi')];rfl
theorem RX.free(h:RX w p m lo hi wx)(i:Nat):wx.frozen? ⟨p,i,none⟩=false:=by obtain⟨a,a0,h1,h2,h3,h4⟩:=h.pk;exact af.free h2 i
theorem RX.lt(h:RX w p m lo hi wx):p<wx.heap.size:=by obtain⟨a,a0,h1,h2,h3,h4⟩:=h.pk;exact h2.lt
theorem RN.kept{m':Mm}{q':Nat}(h:RN w' X p c A n k t m' q' r' s o)(F:bV wx w' p m m'){arr:Array Value}(e:bp c A n k m.g t r' s o=arr):af w' p 176 arr:=by have:=h.blk;rw[F.g]at this;rw[<-e];exact this
theorem RX.acc(h:RX w p m lo hi wx)(hb:af w p 176 arr){m':Mm}(F:bV wx wy p m m')(hk:af wy p 176 arr):RX w p m lo hi wy:=⟨h.jE.trans F.jE,fun b hb1 hp hm=>(F.same b (bF hb1 h.jE.size) hp hm).trans (h.eq b hb1 hp hm),arr,arr,hb,hk,rfl,fun _ _=>rfl⟩
theorem RX.blk(h:RX w p m lo hi wx){t':TypeId}{cs:Array Value}{g:Nat}(hg:af w g t' cs)(h1:g≠p)(h2:¬m.own g):af wx g t' cs:=(h.eq g hg.lt h1 h2).trans hg
end
theorem ft{P:Prop}(h:P:=by with_reducible(repeat(first|assumption|exact RX.start HH.out.blk _ _ _|exact RX.start fP.out.blk _ _ _|refine RX.alloc ?_ _|refine RX.set ?_ (by decide) _))):P:=h
theorem Hc{P:Prop}(h:P:=by with_reducible(repeat(first|assumption|exact RX.fZ PU.out.blk _ _ _ _|refine RX.alloc ?_ _|refine RX.set ?_ (by decide) _))):P:=h
theorem P7{P:Prop}(h:P:=by with_reducible(repeat(first|apply fe.set|apply fe.drewN|apply fe.drew|apply fe.alloc|exact fe.refl _ _|exact fe.more (fe.refl _ _) pJ))):P:=h
theorem RN.stand(H:RN w X p c A n k t m q r s o):RN w.drew X p c A n k t m q r s o/\bV w w.drew p m m/\Hid (∀wx wy,RN wx X p c A n k t m q r s o->Below wx wx wy->RN wy X p c A n k t m q r s o)/\Hid (∀wx wy,bV w wx p m m->Below wx wx wy->bV w wy p m m)/\p<w.heap.size:=⟨H.more (aj w).drew,bV.ext (aj w).drew p m,aa (fun _ _ h hb=>h.more hb),aa (fun _ _ h hb=>h.trans (bV.ext hb p m)),H.lt⟩
theorem RN.cx(H:RN w X p c A n k t m q r s o)(wx:World)(hx:RX w p m 0 0 wx)(i:Nat):wx.cell? ⟨p,i,none⟩=(bp c A n k m.g t r s o)[i]?:=hx.cell H.blk (.inr (aY _))
theorem RN.DG(H:RN w X p c A n k t m q r s o)(lo hi:Nat)(hh:hi<=50:=by decide):(∀wx,RX w p m lo hi wx->∀i,i<lo\/hi<=i->wx.cell? ⟨p,i,none⟩=(bp c A n k m.g t r s o)[i]?)/\(∀wx,RX w p m lo hi wx->∀i,lo<=i->i<hi->wx.cell? ⟨p,i,none⟩=some (VO wx p i))/\(∀wx,RX w p m lo hi wx->∀i,wx.frozen? ⟨p,i,none⟩=false)/\∀wx,RX w p m lo hi wx->p<wx.heap.size:=⟨fun _ hx _ hi=>hx.cell H.blk hi,fun _ hx i _ hi=>hx.some_ H.blk (i:=i) (bF hi hh),fun _ hx i=>hx.free i,fun _ hx=>hx.lt⟩
theorem CQ(H:RN w X p c A n k t m q r s o):Calls prog 205 #[.pointer p] w (bY X p c A n k t m q (Mo.Rn.refuse r) w):=by
 have HW:=aa (fun wx=>GG wx r.k.az s.fr.A s.fr.c s.ol.A s.ol.c);unfold kJ at HW;have HH:=aa H;have aU:=H.lt;clear H;obtain⟨aT,py,kB,hlx⟩:=HH.out.DG 27 31;unfold bp at aT;go_enter func205,ntmps205;go_wp2_with fail;go_region_held3(RX w p m 27 31) (exact ft) (((with_reducible refine(HW.out _).mono ?_);rintro e w1 ⟨rfl,hb1⟩;have jX:=RX.below (by assumption) hb1));have pJ:Below w w w1:=ag (aj w).drew hb1;obtain⟨aA,bh,-⟩:=af.aK (HH.out.blk.ag pJ);have hg1:=(HH.out.blk.ag pJ).lt;unfold bp at aA;clear aT py kB hlx jX;go_wp2_with fail;go_end0;apply bY.at_ (s':=s) (o':=o) HH.out;case hA=>exact P7
 case hK=>(with_reducible(repeat(first|apply af.bb|apply af.drewN|apply af.jA|apply af.alloc|exact(HH.out.blk.ag pJ))))
 case he=>rfl
 case hL=>rfl
 case tk=>exact{HH.out.tk with}
 case op=>exact HH.out.op
end
def kM(p:Mo.Pm)(s:Sl):List Value:=[p.on,p.shut,p.over,p.ek,.slice s.A p.outs.length s.c,p.at_,p.value]
def ml(q:Mo.Rq)(s:Sl):List Value:=[q.kind,q.arg,q.value,q.dflt,.slice s.A q.cases.length s.c]
def rZ(w w':World)(q:Mo.Rq)(s:Sl):Prop:=dv w' (fun b=>w.heap.size<=b/\b<w'.heap.size) bk s.A q.cases/\q.cases.length<=s.c
section
variable(w:World)
theorem FD(h:Int):Calls prog 121 #[h] w fun e w'=>e=.returned (Mo.Pv h)/\w=w':=by have HP:=aa (vp w h);go_enter func121,ntmps121;go_wp2_with fail;refine HP.mono ?_;exact Qt
theorem rZ.none_(q:Mo.Rq)(h:q.cases=[])(s:Sl):rZ w w' q s:=by unfold rZ;rw[h];exact⟨dv.nil _ _ _ _,aY _⟩
theorem rZ.fin{w wa wb:World}{q:Mo.Rq}{z:Sl}(hb:Below w w wa)(hq:rZ wa wb q z){g:Nat}(hg:g<wa.heap.size)(vs:List Value):rZ w (av wb g 0 vs) q z:=⟨(hq.1.same (fun b h=>aM ae vs 0)).mono (fun b h=>⟨bm hb.size h.1,by rw[bw];exact h.2⟩),hq.2⟩
structure GX (w:World) (g:Nat) (wx:World):Prop where
 jE:Below 0 w wx
 eq:∀b,b<w.heap.size->b≠g->wx.heap[b]?=w.heap[b]?
 pk:∃t a a0,af w g t a0/\af wx g t a/\a.size=a0.size
section
variable{w wx wy:World} {g:Nat}
theorem GX.start{t:TypeId}{a:Array Value}(h:af w g t a):GX w g w.drew:=⟨(Below.refl 0 w).trans ((aj w).drew.mono (aY _)),fun _ _ _=>rfl,t,a,a,h,h,rfl⟩
theorem GX.below(h:GX w g wx)(hb:Below wx wx wy):GX w g wy:=by obtain⟨t,a,a0,h1,h2,h3⟩:=h.pk;exact⟨h.jE.trans (hb.mono (aY _)),fun b hb1 hp=>(hb.block b (bF hb1 h.jE.size)).trans (h.eq b hb1 hp),t,a,a0,h1,h2.ag hb,h3⟩
theorem GX.alloc(h:GX w g wx)(o:Obj):GX w g (wx.alloc o):=h.below (ak (aj _) o)
theorem GX.set(h:GX w g wx)(i:Nat)(u:Value):GX w g (wx.setCell ⟨g,i,none⟩ u):=by obtain⟨t,a,a0,h1,h2,h3⟩:=h.pk;exact⟨h.jE.setCell (p:=⟨g,i,none⟩) (aY _) u,fun b hb hp=>(dp _ _ _ _ hp).trans (h.eq b hb hp),t,_,a0,h1,h2.bb i u,by rw[Array.size_setIfInBounds];exact h3⟩
theorem GX.blk(h:GX w g wx){t:TypeId}{cs:Array Value}(hb:af w b t cs)(hne:b≠g):af wx b t cs:=(h.eq b hb.lt hne).trans hb
theorem GX.own(h:GX w g wx){t:TypeId}{cs:Array Value}(hb:af w g t cs):∃a:Array Value,af wx g t a/\a.size=cs.size:=by
 obtain⟨t',a,a0,h1,h2,h3⟩:=h.pk;have h4:t'=t/\a0=cs:=by unfold af at h1 hb;rw[h1]at hb;injection hb with hb;injection hb with e1 e2;exact⟨e2,e1⟩
 exact⟨a,h4.1▸h2,by rw[h3,h4.2]⟩
theorem GX.some_(h:GX w g wx){t:TypeId}{cs:Array Value}(hb:af w g t cs)(hi:i<cs.size):wx.cell? ⟨g,i,none⟩=some (VO wx g i):=by obtain⟨a,h1,h2⟩:=h.own hb;unfold VO;rw[af.cell h1 i,Array.getElem?_eq_getElem ae];rfl
theorem GX.free(h:GX w g wx)(i:Nat):wx.frozen? ⟨g,i,none⟩=false:=by obtain⟨t,a,a0,h1,h2,h3⟩:=h.pk;exact af.free h2 i
theorem GX.seen(h:GX w g wx){a:World}(hb:Below a a w)(hg:a.heap.size<=g):Below a a wx:=(hb.trans ⟨h.jE.os,h.jE.tape,h.jE.output,h.jE.size,fun k hk=>h.eq k (bF hk hb.size) ae⟩)
theorem GX.lt(h:GX w g wx):g<wx.heap.size:=by obtain⟨t,a,a0,h1,h2,h3⟩:=h.pk;exact h2.lt
end
def PmE(o:Option Mo.Rq)(e:Ending)(w':World):Prop:=∃s,e=.returned (.tuple #[.agg (ml (o.getD Mo.qi) s).toArray,o.isSome])/\rZ w w' (o.getD Mo.qi) s/\Below w w w'
theorem CR(d h v:Int):Calls prog 97 #[d,h,v] w fun e w'=>∃s,e=.returned (.agg (ml (Mo.ra d h v) s).toArray)/\rZ w w' (Mo.ra d h v) s/\Below w w w':=by
 go_enter func97,ntmps97;go_wp2_with fail;refine bodyPost_ret (v:=?_) ?_ rfl ?_;rotate_left
 ·simp[results,results97,go_sem];rfl
 ·exact abE
theorem qI(p:Mo.Pm)(s:Sl)(hr:bC w .i64 s.A p.outs)(hl:p.outs.length<=8)(hc:p.outs.length<=s.c):Calls prog 65 #[.agg (kM p s).toArray] w (PmE w (Mo.fw p)):=by
 obtain⟨on,sh,ov,ek,outs,at_,v⟩:=p;obtain⟨A,d⟩:=s;unfold kM;dsimp only at *;obtain⟨n,hn⟩:=aD outs.length;rw[<-hn]at hl hc ⊢;have HX:Hid (∀o,o=none->∀w',Below w w w'->PmE w o (.returned (.tuple #[.agg #[oZ,oZ,oZ,false,oN],false])) w'):=by rintro o rfl w' hb;exact⟨⟨none,0⟩,rfl,rZ.none_ w _ rfl _,hb⟩
 have HN:=aa hn;have HR:=aa hr;by_cases hz:Mo.fw ⟨on,sh,ov,ek,outs,at_,v⟩=none
 ·have HZ:=aa hz;have hz':on=false\/on=true/\(ov=true\/ov=false/\(at_<0\/0<=at_/\((n:Int)<at_\/at_<=n/\sh=true/\¬at_<n))):=by
   unfold Mo.fw at hz;dsimp only at hz;rw[<-hn]at hz;cases on
   ·exact .inl rfl
   ·cases ov
    ·refine .inr ⟨rfl,.inr ⟨rfl,?_⟩⟩;by_cases h1:at_<0
     ·exact .inl h1
     ·by_cases h2:(n:Int)<at_
      ·exact .inr ⟨ae,.inl h2⟩
      ·cases sh
       ·exfalso;rw[ai (by simp;omega)]at hz;simp only[Bool.false_eq_true,false_and,if_false]at hz;split at hz<;>cases hz
       ·refine .inr ⟨ae,.inr ⟨ae,rfl,fun h3=>?_⟩⟩;rw[ai (by simp;omega),au ⟨rfl,h3⟩]at hz;cases hz
    ·exact .inr ⟨rfl,.inl rfl⟩
  clear hz hn hr;rcases hz' with rfl|⟨rfl,rfl|⟨rfl,h1|⟨h1,h2|⟨h2,rfl,h3⟩⟩⟩⟩
  all_goals
   go_enter func65,ntmps65;go_wp2_with fail;refine bodyPost_ret (v:=.tuple #[.agg #[oZ,oZ,oZ,false,oN],false]) (by simp[results,results65,go_sem]) rfl ?_;exact HX.out _ HZ _ (ak (ak (aj _) _) _)
 ·have h1:on=true/\ov=false/\0<=at_/\at_<=n:=by
   unfold Mo.fw at hz;dsimp only at hz;rw[<-hn]at hz;split at hz
   ·exact absurd rfl hz
   ·rename_i h;cases on<;>cases ov<;>simp at h ⊢<;>omega
  obtain⟨rfl,rfl,h1,h2⟩:=h1
  have hE:Mo.fw ⟨true,sh,false,ek,outs,at_,v⟩=if sh=true then(if at_<n then some ⟨4,Mo.ax outs at_,0,false,[]⟩else none)else if at_=0 then some (Mo.ra 2 ek 0)else some (Mo.ra 1 (Mo.ax outs (at_-1)) v):=by
   unfold Mo.fw;dsimp only;rw[<-hn,ai (by simp;omega)];cases sh
   ·simp
   ·by_cases h3:at_<n
    ·simp[h3]
    ·simp[h3]
  have fI:∀X,Below w w ((w.alloc X).alloc VF):=fun X=>ak (ak (aj w) _) _
  have bG:=aa fI
  clear fI
  rcases sh with _|_
  ·rw[ai ah]at hE;by_cases h0:at_=0
   ·subst h0;rw[au rfl]at hE;rw[hE];have HO:=aa (fun wx=>CR wx 2 ek 0);unfold ml Mo.ra at HO;dsimp only[gC]at HO;have HQ:∀X,Hid (af ((w.alloc X).alloc VF) (w.heap.size+1) 42 ([oZ,oZ,oZ,false,oN]:VL).toArray):=fun X=>af.newAt _ _ _ aF;have HQ:=aa HQ;clear hz hE hn hr;go_enter func65,ntmps65;go_wp2_with fail;refine(HO _).mono ?_;rintro e wb ⟨⟨zA,zc⟩,rfl,ho,hb⟩;have iE:=aa ((HQ _).out.ag hb);have bj:=aa (ag (bG _) hb);have HBa:=aa (bG (.cells #[true,false,false,ek,.slice A n d,oZ,v] 86));have HG:Hid (w.heap.size+1<((w.alloc (.cells #[true,false,false,ek,.slice A n d,oZ,v] 86)).alloc VF).heap.size):=by unfold Hid;simp
    have jO:=aa ho;clear ho hb;obtain⟨dh,cW,cY⟩:=af.aK iE;go_wp2_with fail;clear dh cW cY;have dZ:=aR (vs:=[.int .i64 3,oZ,oZ,false,.slice zA 1 zc]) iE rfl;have hO:=rZ.fin HBa jO (g:=w.heap.size+1) HG [.int .i64 3,oZ,oZ,false,.slice zA 1 zc];have fy:Below w w (av wb (w.heap.size+1) 0 [.int .i64 3,oZ,oZ,false,.slice zA 1 zc]):=aw (bU _) _ _ _ bj;change bodyPost _ _ _ _ _ (av wb (w.heap.size+1) 0 [.int .i64 3,oZ,oZ,false,.slice zA 1 zc]);generalize av wb (w.heap.size+1) 0 [.int .i64 3,oZ,oZ,false,.slice zA 1 zc]=wz at *;have eO:=fun i=>af.cell dZ i;exact abF
   ·rw[ai h0]at hE;rw[hE];obtain⟨j,rfl⟩:∃j:Nat,at_=j+1:=⟨(at_-1).toNat,ae⟩
    obtain⟨ad,z,hA,hzz,_⟩:=hr.at_ (i:=j) ae;subst hA;have lO:∀wx,Below w w wx->wx.cell? (ad.add j)=some (.int .i64 z):=fun wx hx=>by
     obtain⟨a',h1,h2⟩:=(hr.below hx) j z (by simp[hzz])
     injection h1 with h1
     subst h1
     exact h2
    have hw:Mo.ax outs ((j+1:Int)-1)=z:=by unfold Mo.ax;rw[ai ae,show((j+1:Int)-1).toNat=j by omega,eR,hzz];rfl
    rw[hw];have e1:IntKind.i64.wrap ((j+1:Int)-1)=j:=by rw[bK _ ae];omega
    have e2:IntKind.i64.wrap (j:Int)=j:=bK _ ae;have Dv:j<n:=ae;have HO:=aa (fun wx=>CR wx 1 z v);unfold ml Mo.ra at HO;dsimp only[gC]at HO;clear hz hE hn hr hw hzz;go_enter func65,ntmps65;go_wp2_with fail;have HP:Hid (af ((w.alloc (.cells #[true,false,false,ek,.slice (some ad) n d,.int .i64 (j+1),v] 86)).alloc VF) w.heap.size 86 _):=(af.new _ _ _).alloc _;have HQ:Hid (af ((w.alloc (.cells (#[true,false,false,ek,.slice (some ad) n d,.int .i64 (j+1),v]:VA) 86)).alloc VF) (w.heap.size+1) 42 ([oZ,oZ,oZ,false,oN]:VL).toArray):=af.newAt _ _ _ aF;have bq:=aa (bG (.cells #[true,false,false,ek,.slice (some ad) n d,.int .i64 (j+1),v] 86));have gu:=aa lO;clear lO;generalize(w.alloc (.cells #[true,false,false,ek,.slice (some ad) n d,.int .i64 (j+1),v] 86)).alloc VF=w2 at *;have aT:=fun wx (hx:GX w2 (w.heap.size+1) wx) i=>af.cell (hx.blk HP ae) i;have lO:∀wx,GX w2 (w.heap.size+1) wx->wx.cell? (ad.add j)=some (.int .i64 z):=fun wx hx=>by
     have h1:=gu.out w (aj w)
     have hs:Sm (·<w.heap.size) w wx:=fun b hb=>(hx.eq b (bF hb bq.size) ae).trans (bq.block b hb)
     rw[hs.cell (bc h1)]
     exact h1
    have py:=fun wx (hx:GX w2 (w.heap.size+1) wx) i (hi:i<5)=>hx.some_ HQ hi;have kB:=fun wx (hx:GX w2 (w.heap.size+1) wx) i=>hx.free i;have hlx:=fun wx (hx:GX w2 (w.heap.size+1) wx)=>hx.lt;go_region_held3(GX w2 (w.heap.size+1)) (with_reducible(repeat(first|assumption|exact GX.start HQ.out|refine GX.alloc ?_ _|refine GX.set ?_ _ _))) (((with_reducible refine(HO.out _).mono ?_);rintro e wb ⟨⟨zA,zc⟩,rfl,ho,hb⟩;have UR:GX w2 (w.heap.size+1) _:=(by assumption);have lK:=GX.below UR hb));all_goals
     obtain⟨aq,h3,h4⟩:=lK.own HQ;have dZ:=aR (vs:=[.int .i64 3,oZ,oZ,false,.slice zA 1 zc]) (cs:=aq.toList) h3 h4;have hO:=rZ.fin (UR.seen bq (bU _)) ho (g:=w.heap.size+1) UR.lt [.int .i64 3,oZ,oZ,false,.slice zA 1 zc];have fy:Below w w (av wb (w.heap.size+1) 0 [.int .i64 3,oZ,oZ,false,.slice zA 1 zc]):=aw (bU _) _ _ _ (lK.seen bq (bU _));clear UR lK aT lO py kB hlx ho hb h3 h4;change Exit.then _ (bodyPost _ _ _) _ _ (av wb (w.heap.size+1) 0 [.int .i64 3,oZ,oZ,false,.slice zA 1 zc]);generalize av wb (w.heap.size+1) 0 [.int .i64 3,oZ,oZ,false,.slice zA 1 zc]=wz at *;have eO:=fun i=>af.cell dZ i;go_wp2_with fail;exact abF
  ·obtain⟨j,rfl⟩:∃j:Nat,at_=j:=⟨at_.toNat,ae⟩
   have h3:(j:Int)<n:=by
    by_cases h3:(j:Int)<n
    ·exact h3
    ·rw[ai h3]at hE;exact absurd hE hz
   rw[au rfl,au h3]at hE;rw[hE];obtain⟨ad,z,hA,hzz,lO⟩:=(hr.below (bG (.cells #[true,true,false,ek,.slice A n d,j,v] 86))).at_ (i:=j) ae;subst hA;have hw:Mo.ax outs j=z:=by unfold Mo.ax;rw[ai ae,eR,fF,hzz];rfl
   rw[hw];clear hz hE hn hr hw hzz;go_enter func65,ntmps65;go_wp2_with fail;refine bodyPost_ret (v:=.tuple #[.agg #[.int .i64 4,z,oZ,false,oN],true]) (by simp[results,results65,go_sem]) rfl ?_;exact⟨⟨none,0⟩,rfl,rZ.none_ w _ rfl _,ak (ak (aj _) _) _⟩
end
section
variable{w:World} {X:Nat->Prop} {p:Nat} {c:Mo.bH} {A:Option Addr} {n k:Nat} {t:Int} {m:Mm} {q:Nat} {r:Mo.Rn} {s:Sh} {o:Sl} {w1:World}
def iu(x:Mo.Tk)(s:Sh):List Value:=[.int .i64 x.pc,.int .i64 x.seq,.int .i64 x.aQ.kind,.int .i64 x.aQ.arg,.int .i64 x.aQ.value,.bool x.aQ.dflt,.slice s.cs.A x.aQ.cases.length s.cs.c,.bool x.slow,.int .i64 x.round,.int .i64 x.i,.int .i64 x.j,.int .i64 x.cu,.int .i64 x.il,.bool x.all,.int .i64 x.base.ix,.int .i64 x.base.tag,.slice s.bf.A x.buf.length s.bf.c,.slice s.nx.A x.next.length s.nx.c,.int .u64 x.word,.slice s.ar.A x.args.length s.ar.c,.slice s.fo.A x.found.length s.fo.c,.slice s.se.A x.seen.length s.se.c,.int .i64 x.az.own.ix,.int .i64 x.az.own.tag,.slice s.fr.A x.az.free.length s.fr.c,.slice s.ol.A x.az.old.length s.ol.c,.int .i64 x.az.spent,.int .i64 x.res.seq,.int .i64 x.res.cs,.int .i64 x.res.code,.int .i64 x.res.value,.bool x.gF,.bool x.waits,.bool x.jr]
def rnT(c:Mo.bH)(A:Option Addr)(n k g:Nat)(t:Int)(r:Mo.Rn)(o:Sl):List Value:=[c.kind,c.threads,c.chans,c.cap,c.nodes,c.aJ,c.aB,c.tags,c.bn,c.ba,.slice A n k,.pointer g,t,r.note,r.gF,.slice o.A r.ops.length o.c]
theorem Ov(c:Mo.bH)(A:Option Addr)(n k g:Nat)(t:Int)(r:Mo.Rn)(s:Sh)(o:Sl):bp c A n k g t r s o=(iu r.k s++rnT c A n k g t r o).toArray:=rfl
theorem fe.av(h:fe p w w1)(i:Nat)(vs:List Value):fe p w (av w1 p i vs):=⟨aw (aY _) vs _ i h.1,fun b hb hp=>(aM hp vs i).trans (h.2 b hb hp)⟩
theorem af.whole{w:World}{g:Nat}(h:af w p 176 (bp c A n k g t r s o))(x:Mo.Tk)(s':Sh):af (av w p 0 (iu x s')) p 176 (bp c A n k g t {r with k:=x} s' o):=by rw[Ov]at h;have:=cX (iu x s') w 0 _ h;rw[yT _ _ _ (by rfl)]at this;exact this
theorem iR(g:Nat):∀(vs:List Value) (w:World) (i:Nat),w.setCells g i vs=av w g i vs
 |[],_,_=>rfl
 |_::vs,w,i=>by rw[World.setCells];exact iR g vs _ (i+1)
theorem af.there{g:Nat}{ty:TypeId}{cs:Array Value}(h:af w g ty cs)(i j:Nat)(hn:i+j<=cs.size):w.there g i j:=fun x hx=>⟨by rw[h.cell (i+x),Array.getElem?_eq_getElem ae];rfl,h.free _⟩
theorem dW(x:Mo.Tk)(s:Sh):(iu x s).toArray.all (·.oneCell')=true:=all_oneCell_toArray (List.all_eq_true.1 (by rfl))
theorem bY.after{e:Ending}(h:bY X p c A n k t m q r' w1 e w')(hA:fe p w w1):bY X p c A n k t m q r' w e w':=bY.then (hA.fr m) h
theorem tK(H:RN w X p c A n k t m q r s o)(h0:0<=r.k.round)(h1:r.k.round<=1000000000):Calls prog 156 #[.pointer p] w (bY X p c A n k t m q (Mo.Rn.fail c r) w):=by
 obtain⟨aA,bh,aU⟩:=af.aK H.blk;unfold bp at aA;have HH:=aa H;clear H;have hE:Mo.Rn.fail c r=Mo.Rn.again c {r with k:={r.k with round:=r.k.round+1,found:=[]}}:=rfl;rw[hE];have HAG:=aa (fun wx (h:RN wx X p c A n k t m q {r with k:={r.k with round:=r.k.round+1,found:=[]}} {s with fo:=dB} o)=>xi h);clear hE;go_enter func156,ntmps156;go_wp2_with fail;refine(HAG _ ?_).mono ?_
 ·exact RN.leaf HH {s with fo:=dB} o {HH.tk with fo:=pN.nil _ _ _,lf:=aY _} HH.op rfl
 ·rintro e w1 ⟨rfl,hX⟩;have HX:=aa hX;clear hX;go_wp2_with fail;go_end0;refine bY.after ⟨rfl,HX⟩ ?_;exact P7
theorem nX(H:RN w X p c A n k t m q r s o)(h0:0<=r.k.i)(h1:r.k.i<=1000000000):Calls prog 162 #[.pointer p] w (bY X p c A n k t m q (Mo.Rn.eC c r) w):=by
 obtain⟨aA,bh,aU⟩:=af.aK H.blk;unfold bp at aA;have HH:=aa H;clear H;by_cases hi:r.k.i+1=c.threads
 ·have hE:Mo.Rn.eC c r={r with k:={r.k with i:=0,cu:=0,pc:=11}}:=by unfold Mo.Rn.eC;rw[au hi]
  rw[hE];have hi':(r.k.i+1==c.threads)=true:=by rw[hi];exact beq_self_eq_true _
  exact UT
 ·have hE:Mo.Rn.eC c r={r with k:={r.k with i:=r.k.i+1,pc:=8}}:=by unfold Mo.Rn.eC;rw[ai hi]
  rw[hE];have hi':(r.k.i+1==c.threads)=false:=by rw[cq];exact hi
  exact UT
theorem pz(H:RN w X p c A n k t m q r s o):Calls prog 182 #[.pointer (some ⟨p,0,none⟩)] w (bY X p c A n k t m q r.finish w):=by
 obtain⟨aA,bh,aU⟩:=af.aK H.blk;unfold bp at aA;have HH:=aa H;clear H;have H1:RN (w.setCell ⟨p,47,none⟩ (.int .i64 3)) X p c A n k t m q {r with note:=3} s o:=RN.leaf HH s o {HH.tk with} HH.op rfl;have hA1:fe p w (w.setCell ⟨p,47,none⟩ (.int .i64 3)):=(fe.refl _ _).set _ _;go_enter func182,ntmps182;go_wp2_with fail;clear aA bh aU HH;generalize w.setCell ⟨p,47,none⟩ (.int .i64 3)=w1 at *;obtain⟨aA,bh,aU⟩:=af.aK H1.blk;unfold bp at aA;have HH:=aa H1;have HA:=aa hA1;clear H1 hA1;go_still_tail 24,(by kernel_rfl)
 change wpList _ _ _ _ _ w1.drew;refine wpList_store_mid rfl 50 _ _ rfl p 0 (iu (Mo.eX 0 r.k.seq r.k.aQ r.k.az r.k.res false) {cs:=s.cs,bf:=dB,nx:=dB,ar:=dB,fo:=dB,se:=dB,fr:=s.fr,ol:=s.ol}).toArray rfl rfl (af.there (af.jA HH.blk) 0 34 (by show 34<=50;decide)) (by kernel_rfl) (dW _ _) ?_;rw[iR];clear aA bh;generalize hw2:av w1.drew p 0 (iu (Mo.eX 0 r.k.seq r.k.aQ r.k.az r.k.res false) {cs:=s.cs,bf:=dB,nx:=dB,ar:=dB,fo:=dB,se:=dB,fr:=s.fr,ol:=s.ol}).toArray.toList=w2;have qT:=aa hw2;clear hw2;go_wp2_with fail;go_end0;rw[<-qT.out];refine bY.after ?_ HA;apply bY.at_ (s':={cs:=s.cs,bf:=dB,nx:=dB,ar:=dB,fo:=dB,se:=dB,fr:=s.fr,ol:=s.ol}) (o':=o) HH;case hA=>exact(fe.refl _ _).drew.av _ _
 case hK=>exact af.whole (af.jA HH.blk) _ _
 case he=>rfl
 case hL=>rfl
 case tk=>exact⟨HH.tk.cs,cA.nil _ _ _ _,cA.nil _ _ _ _,cA.nil _ _ _ _,pN.nil _ _ _,cA.nil _ _ _ _,HH.tk.fr,HH.tk.ol,aY _,aY _,aY _,aY _,HH.tk.lr,HH.tk.lo⟩
 case op=>exact HH.op
end
section
variable{w:World} {X:Nat->Prop} {p:Nat} {c:Mo.bH} {A:Option Addr} {n k:Nat} {t:Int} {m:Mm} {q:Nat} {r:Mo.Rn} {s:Sh} {o:Sl} {w1:World} {N:Int}
theorem ux.tk{x:Mo.Tk}{P:Mo.Pl}(h:mF w1 S x s)(h1:aI w1 w.heap.size 200 2 eL (.slice A1 P.free.length n1) P.free)(h2:aI w1 w.heap.size 203 3 js (.slice B1 P.old.length m1) P.old)(hS:∀b,w.heap.size<=b->b<w1.heap.size->S b)(x':Mo.Tk)(hx:x'={x with az:=P}):mF w1 S x' {s with fr:=⟨A1,n1⟩,ol:=⟨B1,m1⟩}:=by subst hx;exact{h with fr:=⟨h1.xO.2,fun ad ha hne=>by subst ha;exact hS _ (aX h1 rfl).1 (aX h1 rfl).2⟩,ol:=⟨h2.xO.2,fun ad ha hne=>by subst ha;exact hS _ (aX h2 rfl).1 (aX h2 rfl).2⟩,lr:=h1.cap.2,lo:=h2.cap.2}
theorem RN.Zi(H:RN w X p c A n k t m q r s o)(hp:Mo.PB N r.k.az)(hN:N<=100000):L8 w r.k.az s.fr.A s.fr.c s.ol.A s.ol.c:=⟨H.tk.lr,H.tk.lo,H.tk.fr.1,H.tk.ol.1,by have:=hp.len;have:=hp.sp;omega,by have:=hp.len;have:=hp.sp;omega⟩
theorem RX.fZ(h:af w p 176 arr)(m:Mm)(lo hi:Nat)(ob:Obj):RX w p m lo hi (w.alloc ob).drew:=((RX.start h m lo hi).alloc ob)
def uh(w:World)(P:Mo.Pl)(b:Bool)(s2 s3:Value)(wx:World):Prop :=∃g A1 n1 B1 m1,s2=.pointer (some ⟨g,0,none⟩)/\s3=b/\af wx g 39 #[P.own.ix,P.own.tag,.slice A1 P.free.length n1,.slice B1 P.old.length m1,P.spent]/\w.heap.size<=g/\Below w w wx/\aI wx w.heap.size 200 2 eL (.slice A1 P.free.length n1) P.free/\aI wx w.heap.size 203 3 js (.slice B1 P.old.length m1) P.old
theorem uh.last{P:Mo.Pl}{b:Bool}(hb:Below w w w1)(h1:aI w1 w.heap.size 200 2 eL (.slice A1 P.free.length n1) P.free)(h2:aI w1 w.heap.size 203 3 js (.slice B1 P.old.length m1) P.old) :
 uh w P b (.pointer w1.heap.size) b (w1.alloc (pT P.own.ix P.own.tag A1 P.free.length n1 B1 P.old.length m1 P.spent)) :=
 ⟨_,A1,n1,B1,m1,rfl,rfl,af.new _ _ _,hb.size,ak hb _,h1.alloc _,h2.alloc _⟩
theorem uh.mid{P:Mo.Pl}{b:Bool}{a0 a1 a2 a3 a4:Value}(hk:af w1 w.heap.size 39 #[a0,a1,a2,a3,a4])(hb:Below w w w1)(h1:aI w1 w.heap.size 200 2 eL (.slice A1 P.free.length n1) P.free)(h2:aI w1 w.heap.size 203 3 js (.slice B1 P.old.length m1) P.old) :
 uh w P b (.pointer w.heap.size) b (gv w1 w.heap.size P.own.ix P.own.tag (.slice A1 P.free.length n1) (.slice B1 P.old.length m1) P.spent) :=
 ⟨_,A1,n1,B1,m1,rfl,rfl,gN hk _ _ _ _ _,aS _,eQ hb (aS _) _ _ _ _ _,dw h1 hk ah _ _ _ _ _,dw h2 hk ah _ _ _ _ _⟩
theorem zh(H:RN w X p c A n k t m q r s o)(hp:Mo.PB N r.k.az)(hN:N<=100000):Calls prog 153 #[.pointer p] w (bY X p c A n k t m q (Mo.Rn.take c r) w):=by
 have HT:=aa (fun wx (hx:Below w w wx)=>Me wx r.k.az s.fr.A s.fr.c s.ol.A s.ol.c c.tags ((H.more hx).Zi hp hN) hp.QL (fun x hx=>(hp.free x hx).2.2.2) hp.sp (by have:=hp.len;have:=hp.sp;omega));unfold kJ at HT;obtain⟨tp,X2⟩:=aD (Mo.jI r.k.az c.tags);rw[<-X2]at HT;have FE:=aa X2;have HH:=aa H;have aU:=H.lt;clear H X2;obtain⟨aT,py,kB,hlx⟩:=HH.DG 0 0;unfold bp at aT;go_enter func153,ntmps153;go_wp2_with fail;go_cut[2,3] (fun s2 s3 wx=>uh w tp.1 tp.2 s2 s3 wx);case first =>
  go_region_held3(RX w p m 0 0) (with_reducible(repeat(first|assumption|exact RX.start HH.out.blk _ _ _|exact RX.fZ HH.out.blk _ _ _ _|refine RX.alloc ?_ _|refine RX.far ?_ (aS _) _ _))) (((with_reducible refine(HT.out _ (by first|exact(aj w).drew|exact(ak (aj w) _).drew)).mono ?_);rintro e w1 ⟨v,rfl,A1,n1,B1,m1,rfl,eo,fN,hb1⟩;unfold kJ;have jX:=RX.below (by assumption) hb1;have abG:=ag (by first|exact(aj w).drew|exact(ak (aj w) _).drew:Below w w _) hb1;(try(have tV:=(af.dr (af.new w _ _)).ag hb1;have hcK:=fun i=>af.cell tV i;have hfK:=fun i=>af.free tV i;have hgK:=tV.lt))));all_goals
   go_wp2_with fail;go_meet;first
    |with_reducible exact uh.last abG (eo.weak aF) (fN.weak aF)
    |(change uh _ _ _ _ _ (gv w1 w.heap.size _ _ _ _ _);with_reducible exact uh.mid tV abG (eo.weak aF) (fN.weak aF))
 case rest =>
  obtain⟨g,A1,n1,B1,m1,rfl,rfl,hK,hg,hb,h1,h2⟩:=hcut;obtain⟨P1,b1⟩:=tp;dsimp only at hK h1 h2 ⊢;have HB:=aa hb;have HR:=aa (HH.more hb);have p6:Hid (mF wc (Im wc X p m) {r.k with az:=P1} {s with fr:=⟨A1,n1⟩,ol:=⟨B1,m1⟩}):=ux.tk HR.tk h1 h2 (fun b h0 h1=>Im.fresh HH h0 h1) _ rfl;have HAG:=aa (fun wy (h:RN wy X p c A n k t m q {r with k:={r.k with az:=P1,jr:=false}} {s with fr:=⟨A1,n1⟩,ol:=⟨B1,m1⟩} o)=>xi h);have HRF:=aa (fun wy (h:RN wy X p c A n k t m q {r with k:={r.k with az:=P1}} {s with fr:=⟨A1,n1⟩,ol:=⟨B1,m1⟩} o)=>CQ h);have HG:=aa hK;have hpg:p<g:=ae;obtain⟨cQ,-,fV⟩:=af.aK HG;obtain⟨aA,bh,hgx⟩:=af.aK HR.blk;unfold bp at aA;clear aT py kB hlx aU hK hg hb h1 h2 HT;rcases b1 with _|_
  ·by_cases ho:0<P1.old.length
   ·have hoi:(0:Int)<(P1.old.length:Int):=ae;rcases hs:r.k.jr with _|_
    ·have hE:Mo.Rn.take c r={r with k:={r.k with az:=P1,jr:=true,pc:=24}}:=by unfold Mo.Rn.take;rw[<-FE.out];dsimp only;rw[ai ah,au ⟨ho,hs⟩]
     have HE:=aa hE;clear hE;go_wp2_with fail;go_end0;rw[HE.out];refine bY.then (bV.ext HB p m) ?_;exact bY.leaf HR {s with fr:=⟨A1,n1⟩,ol:=⟨B1,m1⟩} o {p6 with} HR.op rfl
    ·have hE:Mo.Rn.take c r=Mo.Rn.refuse {r with k:={r.k with az:=P1}}:=by unfold Mo.Rn.take;rw[<-FE.out];dsimp only;rw[ai ah,ai (fun h=>by rw[hs]at h;cases h.2)]
     exact abH
   ·have hoi:¬(0:Int)<(P1.old.length:Int):=ae;have hE:Mo.Rn.take c r=Mo.Rn.refuse {r with k:={r.k with az:=P1}}:=by unfold Mo.Rn.take;rw[<-FE.out];dsimp only;rw[ai ah,ai (fun h=>ho h.1)]
    exact abH
  ·have hE:Mo.Rn.take c r=Mo.Rn.again c {r with k:={r.k with az:=P1,jr:=false}}:=by unfold Mo.Rn.take;rw[<-FE.out];dsimp only;rw[au rfl]
   have HE:=aa hE;clear hE;go_wp2_with fail;refine(HAG _ ?_).mono ?_
   ·exact RN.leaf HR {s with fr:=⟨A1,n1⟩,ol:=⟨B1,m1⟩} o {p6 with} HR.op rfl
   ·rintro e w3 ⟨rfl,hX⟩;have HX:=aa hX;clear hX;go_wp2_with fail;go_end0;rw[HE.out];refine bY.then (bV.ext HB p m) (bY.after ⟨rfl,HX⟩ ?_);exact P7
end
section
variable{w:World} {X:Nat->Prop} {p:Nat} {c:Mo.bH} {A:Option Addr} {n k:Nat} {t:Int} {m:Mm} {q:Nat} {r:Mo.Rn} {s:Sh} {o:Sl} {w1:World} {N:Int}
theorem RX.rd{wx:World}{lo hi:Nat}(h:RX w p m lo hi wx)(H:RN w X p c A n k t m q r s o):bC wx .i64 A c.start:=(H.cf.same fun b hb=>h.eq b hb.1 hb.2.1 hb.2.2.1).1
theorem kN(H:RN w X p c A n k t m q r s o)(hp:Mo.PB N r.k.az)(hN:N<=100000):Calls prog 179 #[.pointer p] w (bY X p c A n k t m q (Mo.Rn.dy c r) w):=by
 have p6:=aa (zh H hp hN);obtain⟨aA,bh,aU⟩:=af.aK H.blk;unfold bp at aA;have HH:=aa H;clear H;rcases hs:r.k.jr with _|_
 ·have hE:Mo.Rn.dy c r=r.pc 28:=by unfold Mo.Rn.dy;rw[ai (by rw[hs];decide)]
  rw[hE];clear hE;go_enter func179,ntmps179;go_wp2_with fail;go_end0;exact bY.leaf HH s o {HH.tk with} HH.op rfl
 ·have hE:Mo.Rn.dy c r=Mo.Rn.take c r:=by unfold Mo.Rn.dy;rw[au hs]
  rw[hE];clear hE;go_enter func179,ntmps179;go_wp2_with fail;refine p6.mono ?_;rintro e w3 ⟨rfl,hX⟩;have HX:=aa hX;clear hX;go_wp2_with fail;exact bodyPost_ret (v:=.tuple #[]) (by simp[results,results179,go_sem]) rfl ⟨rfl,HX⟩
theorem qJ(H:RN w X p c A n k t m q r s o):Calls prog 176 #[.pointer p] w (bY X p c A n k t m q (Mo.Rn.owned c r) w):=by
 have nh:=aa (pz H);have HD:=aa (H.more (aj w).drew);have N7:=aa (pI w.drew r.k.az s.fr.A s.fr.c s.ol.A s.ol.c c.aJ);unfold kJ at N7;obtain⟨aA,bh,aU⟩:=af.aK H.blk;unfold bp at aA;have HH:=aa H;clear H;rcases hs:r.k.waits with _|_
 ·rcases hnb:Mo.needs r.k.az c.aJ with _|_
  ·have hE:Mo.Rn.owned c r=r.pc 28:=by unfold Mo.Rn.owned;rw[ai (by rw[hs];decide),ai (by rw[hnb];decide)]
   exact abI
  ·have hE:Mo.Rn.owned c r=r.pc 24:=by unfold Mo.Rn.owned;rw[ai (by rw[hs];decide),au hnb]
   exact abI
 ·have hE:Mo.Rn.owned c r=r.finish:=by unfold Mo.Rn.owned;rw[au hs]
  rw[hE];clear hE;go_enter func176,ntmps176;go_wp2_with fail;refine nh.mono ?_;rintro e w3 ⟨rfl,hX⟩;have HX:=aa hX;clear hX;go_wp2_with fail;go_end0;exact⟨rfl,HX⟩
theorem jg(H:RN w X p c A n k t m q r s o)(ix tag:Int)(h0:0<=ix)(h1:ix<=70000):Calls prog 157 #[.pointer p,.agg #[ix,tag]] w fun e w'=>e=.returned (Mo.bA c ix)/\Below w w w':=by
 have HB:Hid (Below w w (w.alloc (.cells #[ix,tag] 35)).drew):=(ak (aj w) _).drew;have HN:=aa (o7 (w.alloc (.cells #[ix,tag] 35)).drew H.cs.dL H.cs.n ((H.more HB).cf.1) (k:=k) ix h0 h1);have HK:=aa (H.more (ak (aj w) (.cells #[ix,tag] 35)));have pw:Hid (af (w.alloc (.cells #[ix,tag] 35)) w.heap.size 35 #[ix,tag]):=af.new _ _ _;clear H;go_enter func157,ntmps157;go_wp2_with fail;obtain⟨g,hg⟩:=aD w.heap.size;rw[<-hg]at pw ⊢;generalize w.alloc (.cells #[ix,tag] 35)=w0 at *;obtain⟨aA,-,aU⟩:=af.aK HK.blk;obtain⟨cQ,-,fV⟩:=af.aK pw;unfold bp at aA;clear hg;go_still_tail 6,(by kernel_rfl)
 change wpList _ _ _ _ _ w0.drew;clear aA aU cQ fV HK pw;generalize w0.drew=wd at *;go_wp2_with fail;refine HN.mono ?_;rintro e w1 ⟨rfl,hb1⟩;have bj:=aa (ag HB hb1);clear hb1;go_wp2_with fail;go_ret;exact⟨rfl,bj⟩
end
section
variable{w:World} {X:Nat->Prop} {p:Nat} {c:Mo.bH} {A:Option Addr} {n k:Nat} {t:Int} {m:Mm} {q:Nat} {r:Mo.Rn} {s:Sh} {o:Sl} {w1:World} {N:Int}
theorem zi(H:RN w X p c A n k t m q r s o):Calls prog 159 #[.pointer p] w fun e w'=>e=.returned (Mo.aZ c)/\Below w w w':=by
 have hsz:=size_le H.cs.dL;have ji:=H.cs.th;have hp0:=(Mo.aG H.cs.dL).1.1;obtain⟨v1,xH⟩:∃v,v=Mo.bA c 1:=⟨_,rfl⟩
 obtain⟨v0,hv0⟩:∃v,v=Mo.bA c 0:=⟨_,rfl⟩
 have I1:=aa (fun wx (hx:Ext w wx)=>o7 wx H.cs.dL H.cs.n ((H.more hx.out).cf.1) (k:=k) 1 (by decide) (by decide));have HN0:=aa (fun wx (hx:Ext w wx)=>o7 wx H.cs.dL H.cs.n ((H.more hx.out).cf.1) (k:=k) 0 (by decide) (by decide));rw[<-xH]at I1;rw[<-hv0]at HN0;have hE:v1-v0-1=Mo.aZ c:=by rw[xH,hv0];unfold Mo.bA;omega
 have b0:0<=v0/\v0<=100000:=by rw[hv0];unfold Mo.bA;omega
 have b1:0<=v1/\v1<=100000:=by rw[xH];unfold Mo.bA;omega
 have e1:IntKind.i64.wrap (v1-v0)=v1-v0:=bK _ (by omega);have e2:IntKind.i64.wrap (v1-v0-1)=v1-v0-1:=bK _ (by omega);have HE:=aa hE;have HH:=aa H;have aT:=fun wx (hx:Ext w wx) i=>af.cell (HH.out.more hx.out).blk i;unfold bp at aT;clear H xH hv0 hE hsz ji hp0 b0 b1;go_enter func159,ntmps159;go_wp2_with fail;go_region_held3(Ext w) (with_reducible(repeat(first|assumption|exact Ext.start _|exact Ext.fZ _ _|refine Ext.alloc ?_ _))) (first
  |((with_reducible refine(I1.out _ (by assumption)).mono ?_);rintro e wA ⟨rfl,bN⟩;have kC:=Ext.to (by assumption) bN)
  |((with_reducible refine(HN0.out _ (by assumption)).mono ?_);rintro e wB ⟨rfl,dE⟩;have lK:=Ext.to (by assumption) dE))
 all_goals
  go_wp2_with fail;go_ret;refine⟨by rw[<-HE.out];rfl,?_⟩;first
   |with_reducible exact kC.out
   |with_reducible exact lK.out
theorem tL(H:RN w X p c A n k t m q r s o)(l:List Int)(D:Option Addr)(dl dd:Nat)(jk:dl=l.length)(lu:(l.length:Int)=Mo.aZ c)(hu:Mo.eH l)(hD:bC w .u64 D l)(i:Int)(h0:0<=i)(h1:i<c.threads) :
 Calls prog 160 #[.pointer p,.slice D dl dd,i] w fun e w'=>e=.returned (.agg #[.int .i64 (Mo.fS c l i).seq,.int .i64 (Mo.fS c l i).cs,.int .i64 (Mo.fS c l i).code,.int .i64 (Mo.fS c l i).value])/\Below w w w':=by
 obtain⟨j,rfl⟩:=Int.eq_ofNat_of_zero_le h0
 have bG:Hid (Below w w (w.alloc ij)):=ak (aj w) _
 have pw:Hid (af (w.alloc ij) w.heap.size 48 #[oZ,oZ,oZ,oZ]):=af.new _ _ _
 have HD:=aa (tI _ H.cs.dL H.cs.n ((H.more bG).cf.1) (k:=k) l D dl dd jk lu (hD.below bG) j h1)
 have hw:=Mo.rv c hu j
 have HR:=aa (fun wx=>ke wx (Mo.j6 c l j) hw.1 hw.2)
 rw[show rS (Mo.j6 c l j)=(Mo.fS c l j).seq from rfl,show rC (Mo.j6 c l j)=(Mo.fS c l j).cs from rfl,show rO (Mo.j6 c l j)=(Mo.fS c l j).code from rfl,show rV (Mo.j6 c l j)=(Mo.fS c l j).value from rfl]at HR
 obtain⟨x,hx⟩:=aD (Mo.fS c l j)
 rw[<-hx]at HR ⊢
 have HK:=aa (H.more bG)
 clear hw hx H jk lu hu hD h0 h1
 go_enter func160,ntmps160
 go_upto_region 1 with fail
 obtain⟨g,hg⟩:=aD w.heap.size
 have Jh:w.heap.size<=g:=ae
 rw[<-hg]at pw ⊢
 generalize(w.alloc ij)=w0 at *
 obtain⟨aA,-,aU⟩:=af.aK HK.blk
 unfold bp at aA
 clear hg
 go_wp2_with fail
 refine HD.mono ?_
 rintro e w1 ⟨rfl,hb1⟩
 have bj:=aa (ag bG hb1);have fh:=aa (pw.ag hb1)
 clear hb1 aA aU HK pw HD bG
 go_wp2_with fail
 refine(HR _).mono ?_
 rintro e w2 ⟨rfl,hb2⟩
 have bq:=aa (ag bj hb2);have jv:=aa (fh.ag hb2)
 clear hb2 fh bj HR
 obtain⟨cQ,hfg,fV⟩:=af.aK jv
 go_wp2_with fail
 have dZ:=aR (vs:=[x.seq,x.cs,x.code,x.value]) jv rfl
 have fy:=aw (B:=w.heap.size) (g:=g) Jh [x.seq,x.cs,x.code,x.value] _ 0 bq
 change bodyPost _ _ _ _ _ (av w2 g 0 [x.seq,x.cs,x.code,x.value])
 clear cQ hfg fV
 generalize av w2 g 0 [x.seq,x.cs,x.code,x.value]=wz at *
 have eO:=fun i=>af.cell dZ i
 refine bodyPost_ret (v:=.agg #[x.seq,x.cs,x.code,x.value]) ?_ rfl ⟨rfl,fy⟩
 simp[results,results160,go_sem,eO]
theorem pO(H:RN w X p c A n k t m q r s o)(x:Int)(hx:Mo.r9 x):Calls prog 183 #[.pointer p,.int .u64 x] w fun e w'=>e=.returned (Mo.lY r.k x)/\Below w w w':=by
 have HR:=aa (ke w x hx.1 hx.2);rw[show rS x=(Mo.cS x).seq from rfl,show rC x=(Mo.cS x).cs from rfl,show rO x=(Mo.cS x).code from rfl,show rV x=(Mo.cS x).value from rfl]at HR;have HF:=aa (fun wx=>yA wx (Mo.cS x).seq (Mo.cS x).cs (Mo.cS x).code (Mo.cS x).value);obtain⟨y,hy⟩:=aD (Mo.cS x);have HE:Hid (Mo.lY r.k x=(y.seq==r.k.seq && Lh y.code)):=by unfold Hid Mo.lY;rw[hy];rfl
 rw[<-hy]at HR HF;have HH:=aa H;clear H hx hy;by_cases hs:y.seq=r.k.seq
 ·have hs':(y.seq==r.k.seq)=true:=by rw[hs];exact beq_self_eq_true _
  have iD:Hid (Mo.lY r.k x=Lh y.code):=by unfold Hid;rw[HE.out,hs'];rfl
  clear hs HE;go_enter func183,ntmps183;go_wp2_with fail;refine HR.mono ?_;rintro e w1 ⟨rfl,hb1⟩;have HK:=aa (HH.more (ak hb1 (pD y.seq y.cs y.code y.value)));have HB:=aa (ak hb1 (pD y.seq y.cs y.code y.value));have Zj:Hid (af (w1.alloc (pD y.seq y.cs y.code y.value)) w1.heap.size 48 #[y.seq,y.cs,y.code,y.value]):=af.new _ _ _;clear hb1 HR;go_upto_region 2 with fail
  obtain⟨g,hg⟩:=aD w1.heap.size;rw[<-hg]at Zj ⊢;clear hg;generalize(w1.alloc (pD y.seq y.cs y.code y.value))=w2 at *;obtain⟨aA,-,aU⟩:=af.aK HK.blk;obtain⟨cQ,-,fV⟩:=af.aK Zj;unfold bp at aA;go_still_tail 10,(by kernel_rfl)
  change wpList _ _ _ _ _ w2.drew;have JI:=aa HB.drew;clear aA aU cQ fV HK Zj HB;generalize w2.drew=wd at *;go_wp2_with fail;refine(HF _).mono ?_;rintro e w3 ⟨rfl,hb3⟩;have bZ:=aa (ag JI hb3);clear hb3;go_wp2_with fail;go_ret;exact⟨by rw[iD.out];rfl,bZ⟩
 ·have hs':(y.seq==r.k.seq)=false:=by rw[cq];exact hs
  have iD:Hid (Mo.lY r.k x=false):=by unfold Hid;rw[HE.out,hs'];rfl
  clear hs HE;go_enter func183,ntmps183;go_wp2_with fail;refine HR.mono ?_;rintro e w1 ⟨rfl,hb1⟩;have HK:=aa (HH.more (ak hb1 (pD y.seq y.cs y.code y.value)));have HB:=aa (ak hb1 (pD y.seq y.cs y.code y.value));have Zj:Hid (af (w1.alloc (pD y.seq y.cs y.code y.value)) w1.heap.size 48 #[y.seq,y.cs,y.code,y.value]):=af.new _ _ _;clear hb1 HR;go_upto_region 2 with fail
  obtain⟨g,hg⟩:=aD w1.heap.size;rw[<-hg]at Zj ⊢;clear hg;generalize(w1.alloc (pD y.seq y.cs y.code y.value))=w2 at *;obtain⟨aA,-,aU⟩:=af.aK HK.blk;obtain⟨cQ,-,fV⟩:=af.aK Zj;unfold bp at aA;go_quiet(fail);go_wp2_with fail;go_ret;exact⟨by rw[iD.out];rfl,bO HB _⟩
end
end Go.Proofs.YtjcjjiieblineaaGreat
