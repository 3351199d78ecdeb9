/- Walks and plain facts. No condition. -/
import Derived.Test.YtjcjjiieblineaaGreatPk
import Derived.Test.YtjcjjiieblineaaGreatPn
namespace Go.Proofs.YtjcjjiieblineaaGreat
open Go.RowKit Go.Proofs.Tryz
set_option maxHeartbeats 8000000
set_option maxRecDepth 100000
set_option linter.all false
section
variable{w:World} {X:Nat->Prop} {p:Nat} {c:Mo.bH} {A:Option Addr} {n k:Nat} {t:Int} {m:Mm} {q:Nat} {r:Mo.Rn} {s:Sh} {o:Sl} {N:Int}
theorem cZ(hc:Mo.aN c=true){i:Int}(h0:0<=i)(h1:i<c.threads):(0<=Mo.lN c i/\Mo.lN c i<Mo.bo c)/\(0<=Mo.gZ c i/\Mo.gZ c i<Mo.bo c)/\(0<=Mo.ou c i/\Mo.ou c i<Mo.bo c)/\(0<=Mo.cn c i/\Mo.cn c i<Mo.bo c)/\∀j:Int,0<=j->j<5->0<=Mo.iK c i+j/\Mo.iK c i+j<Mo.bo c:=by
 have h2:=na hc;have h3:=kn hc (i:=Mo.bI c) ae ae;have h4:Mo.bo c=Mo.bA c (Mo.bI c):=by unfold Mo.bo;rw[ai (by rw[hc];decide)]
 rw[h4];unfold Mo.bA Mo.lN Mo.gZ Mo.ou Mo.cn Mo.iK;refine⟨ae,ae,ae,ae,fun j _ _=>by omega⟩
theorem lH(hc:Mo.aN c=true){i:Int}(h0:0<=i)(h1:i<Mo.bI c):(0<=Mo.bA c i/\Mo.bA c i<Mo.bo c)/\∀j:Int,0<=j->j<Mo.aZ c->0<=Mo.bA c i+1+j/\Mo.bA c i+1+j<Mo.bo c:=by
 have h2:=na hc;have h3:=kn hc (i:=i) ae ae;have h5:=size_le hc;have ji:=(Mo.aG hc).1.1;have h4:Mo.bo c=Mo.bA c (Mo.bI c):=by unfold Mo.bo;rw[ai (by rw[hc];decide)]
 have h6:Mo.bA c (Mo.bI c)=Mo.bA c i+(Mo.bI c-i)*(1+Mo.aZ c):=by unfold Mo.bA;rw[Int.sub_mul];omega
 have h7:1*(1+Mo.aZ c)<=(Mo.bI c-i)*(1+Mo.aZ c):=Int.mul_le_mul_of_nonneg_right ae ae;rw[h4,h6];have h8:0<=Mo.bA c i:=by unfold Mo.bA;omega
 refine⟨ae,fun j _ _=>by omega⟩
theorem jB{x:Int}(h0:0<=x)(h1:x<=4611686018427387904):IntKind.i64.wrap x=x:=bK _ ae
theorem SH(H:RN w X p c A n k t m q r s o)(HB:Mo.RB c N r)(hN:N<=100000)(hq:q<=900000)(bM:r.k.pc=1):Calls prog 108 #[.pointer p] w (bY X p c A n k t m (q+1) (Mo.Rn.enter c t r) w):=by
 have HL:=aa (cg H hq 1 ah);have hx0:=(HB.L.at_ 1).1;have hx1:=HB.g;have hE:Mo.Rn.enter c t r={r with k:={r.k with il:=Mo.ax r.L 1,pc:=2}}:=by unfold Mo.Rn.enter;rw[au bM]
 rw[hE];obtain⟨x,hx⟩:=aD (Mo.ax r.L 1);rw[<-hx]at HL hx0 hx1 ⊢;have DB:IntKind.i64.wrap x=x:=jB hx0 ae;obtain⟨aA,bh,aU⟩:=af.aK H.blk;unfold bp at aA;have HH:=aa H;clear H;rw[bM]at aA;clear hE bM hx HB;go_enter func108,ntmps108;exact abJ
theorem SI(H:RN w X p c A n k t m q r s o)(HB:Mo.RB c N r)(hq:q<=900000)(bM:r.k.pc=3):Calls prog 108 #[.pointer p] w (bY X p c A n k t m (q+1) (Mo.Rn.enter c t r) w):=by
 have HL:=aa (cg H hq 0 ah);have hx0:=HB.L.at_ 0;have hE:Mo.Rn.enter c t r={r with k:={r.k with base:=(Mo.gy (Mo.ax r.L 0)).1,pc:=4}}:=by unfold Mo.Rn.enter;rw[ai ae,ai ae,au bM]
 rw[hE];obtain⟨x,hx⟩:=aD (Mo.ax r.L 0);rw[<-hx]at HL hx0 ⊢;have lB:=aa (fun wx=>yx wx x hx0.1 hx0.2);obtain⟨aA,bh,aU⟩:=af.aK H.blk;unfold bp at aA;have HH:=aa H;clear H;rw[bM]at aA;clear hE bM hx HB hx0;go_enter func108,ntmps108;exact abK
theorem SJ(H:RN w X p c A n k t m q r s o)(HB:Mo.RB c N r)(hN:N<=100000)(hq:q<=900000)(bM:r.k.pc=2):Calls prog 108 #[.pointer p] w (bY X p c A n k t m (q+1) (Mo.Rn.enter c t r) w):=by
 have hep:=HB.k.ep;have ha:=(cZ H.cs.dL H.cs.t0 H.cs.t1).2.2.1;have hE:Mo.Rn.enter c t r=Mo.Rn.take c (r.store (Mo.ou c t) (Mo.iw r.k.il)):=by unfold Mo.Rn.enter;rw[ai (by omega),au bM]
 rw[hE];have HA:=aa (fun wx=>rM wx H.cs.dL A k n t H.cs.t0 (by have:=H.cs.t1;have:=H.cs.th;omega));have J5:Hid (∀wx,Calls prog 152 #[r.k.il] wx fun e w'=>e=.returned (.int .u64 (Mo.iw r.k.il))/\wx=w'):=fun wx=>by exact UU
 have HST:=aa (fun wx (h:RN wx X p c A n k t m q r s o)=>eh h hq (Mo.ou c t) (Mo.iw r.k.il) ha.1 ha.2);have p6:=aa (fun wx mx (h:RN wx X p c A n k t mx (q+1) (r.store (Mo.ou c t) (Mo.iw r.k.il)) s o)=>zh h HB.k.az hN);have HH:=aa H;have fp:=H.more (aj w).drew;have cB:=aa (fun wx wy (h:RN wx X p c A n k t m q r s o) (hb:Below wx wx wy)=>h.more hb);have aU:=H.lt;have aT:=HH.out.cx;unfold bp at aT;have aA:=fun i=>af.cell HH.out.blk i;unfold bp at aA;rw[bM]at aA;clear hE bM HB H ha hep;go_enter func108,ntmps108;go_wp2_with fail;clear aA;go_region_held3(RX w p m 0 0) (exact ft) (first
  |((with_reducible refine(HA.out _).mono ?_);rintro e wA ⟨rfl,bN⟩;have kC:=RX.below (by assumption) bN;have lL:=cB.out _ _ (by assumption) bN)
  |((with_reducible refine(J5.out _).mono ?_);rintro e wB ⟨rfl,rfl⟩)
  |((with_reducible refine(HST.out _ (by assumption)).mono ?_);rintro e wC ⟨rfl,mC,hC,fC⟩;have iT:=RX.acc (by assumption) HH.out.blk fC (hC.kept fC rfl)))
 all_goals
  have HR:=aa hC;have HF:=aa (((bV.ext (aj w).drew p m).trans (bV.ext bN p m)).trans fC);clear kC lL iT hC fC bN;go_wp2_with fail;refine(p6.out _ _ HR.out).mono ?_;rintro e w3 ⟨rfl,hX⟩;have HX:=aa hX;clear hX;go_wp2_with fail;go_end0;exact bY.then HF.out ⟨rfl,HX.out⟩
theorem SK(H:RN w X p c A n k t m q r s o)(hq:q<=900000)(bM:r.k.pc=4):Calls prog 108 #[.pointer p] w (bY X p c A n k t m (q+1) (Mo.Rn.enter c t r) w):=by
 have ha:=(cZ H.cs.dL H.cs.t0 H.cs.t1).2.1;have hE:Mo.Rn.enter c t r=(r.store (Mo.gZ c t) (Mo.bL r.k.base)).pc 5:=by unfold Mo.Rn.enter;rw[ai (by omega),ai (by omega),ai (by omega),au bM]
 rw[hE];have HA:=aa (fun wx=>oY wx H.cs.dL A k n t H.cs.t0 (by have:=H.cs.t1;have:=H.cs.th;omega));have J5:Hid (∀wx,Calls prog 103 #[.agg #[r.k.base.ix,r.k.base.tag]] wx fun e w'=>e=.returned (.int .u64 (Mo.bL r.k.base))/\Below wx wx w'):=fun wx=>fE wx _ _;have HST:=aa (fun wx (h:RN wx X p c A n k t m q r s o)=>eh h hq (Mo.gZ c t) (Mo.bL r.k.base) ha.1 ha.2);have HH:=aa H;obtain⟨fp,fL,cB,HFm,aU⟩:=H.stand;have aT:=HH.out.cx;unfold bp at aT;have aA:=fun i=>af.cell HH.out.blk i;unfold bp at aA;rw[bM]at aA;clear hE bM H ha;go_enter func108,ntmps108;go_wp2_with fail;clear aA;go_region_held3(RX w p m 0 0) (exact ft) (first
  |((with_reducible refine(HA.out _).mono ?_);rintro e wA ⟨rfl,bN⟩;have kC:=RX.below (by assumption) bN;have lL:=cB.out _ _ (by assumption) bN;have mn:=HFm.out _ _ (by assumption) bN)
  |((with_reducible refine(J5.out _).mono ?_);rintro e wB ⟨rfl,dE⟩;have lK:=RX.below (by assumption) dE;have xI:=cB.out _ _ (by assumption) dE;have pA:=HFm.out _ _ (by assumption) dE)
  |((with_reducible refine(HST.out _ (by assumption)).mono ?_);rintro e wC ⟨rfl,mC,hC,fC⟩;have iT:=RX.acc (by assumption) HH.out.blk fC (hC.kept fC rfl);have dG:=bV.trans (by assumption) fC))
 exact X4
theorem SL(H:RN w X p c A n k t m q r s o)(HB:Mo.RB c N r)(hN:N<=100000)(hq:q<=900000)(bM:r.k.pc=5):Calls prog 108 #[.pointer p] w (bY X p c A n k t m (q+1) (Mo.Rn.enter c t r) w):=by
 have jD:=HB.k.round;have hE:Mo.Rn.enter c t r=if Mo.ax r.L 0≠Mo.bL r.k.base then Mo.Rn.fail c r else r.pc 6:=by unfold Mo.Rn.enter;rw[ai (by omega),ai (by omega),ai (by omega),ai (by omega),au bM]
 rw[hE];obtain⟨x,hx⟩:∃x,x=Mo.ax r.L 0:=⟨_,rfl⟩
 obtain⟨y,hy⟩:∃y,y=Mo.bL r.k.base:=⟨_,rfl⟩
 rw[<-hx, <-hy];have J5:Hid (∀wx,Calls prog 103 #[.agg #[r.k.base.ix,r.k.base.tag]] wx fun e w'=>e=.returned (.int .u64 y)/\Below wx wx w'):=fun wx=>by
  rw[hy]
  exact fE wx _ _
 have j5:=aa (fun wx (h:RN wx X p c A n k t m q r s o)=>cg h hq 0 (by decide));rw[<-hx]at j5;have HH:=aa H;have fp:=H.more (aj w).drew;have cB:=aa (fun wx wy (h:RN wx X p c A n k t m q r s o) (hb:Below wx wx wy)=>h.more hb);have aU:=H.lt;have aT:=HH.out.cx;unfold bp at aT;have aA:=fun i=>af.cell HH.out.blk i;unfold bp at aA;rw[bM]at aA;clear hE bM H hx hy;by_cases fM:x=y
 ·have oy:(x !=y)=false:=by rw[fM];exact bne_self_eq_false _
  rw[ai (fun h=>h fM)];clear fM;go_enter func108,ntmps108;go_wp2_with fail;clear aA;go_region_held3(RX w p m 0 0) (exact ft) (first
   |((with_reducible refine(J5.out _).mono ?_);rintro e wB ⟨rfl,dE⟩;have lK:=RX.below (by assumption) dE;(try have xI:=cB.out _ _ (by assumption) dE))
   |((with_reducible refine(j5.out _ (by assumption)).mono ?_);rintro e wC ⟨rfl,mC,hC,fC⟩;have iT:=RX.acc (by assumption) HH.out.blk fC (hC.kept fC rfl)))
  all_goals
   first
    |(have HF:=aa (((bV.ext (aj w).drew p m).trans (bV.ext dE p m)).trans fC);have HR:=aa hC)
    |(have HF:=aa (((bV.ext (aj w).drew p m).trans fC).trans (bV.ext dE p mC));have HR:=aa (hC.more dE))
   exact UW
 ·have oy:(x !=y)=true:=by rw[bne_iff_ne];exact fM
  rw[au fM];clear fM;have Ac:=aa (fun wx mx (h:RN wx X p c A n k t mx (q+1) r s o)=>tK h jD.1 (by omega));go_enter func108,ntmps108;go_wp2_with fail;clear aA;go_region_held3(RX w p m 0 0) (exact ft) (first
   |((with_reducible refine(J5.out _).mono ?_);rintro e wB ⟨rfl,dE⟩;have lK:=RX.below (by assumption) dE;(try have xI:=cB.out _ _ (by assumption) dE))
   |((with_reducible refine(j5.out _ (by assumption)).mono ?_);rintro e wC ⟨rfl,mC,hC,fC⟩;have iT:=RX.acc (by assumption) HH.out.blk fC (hC.kept fC rfl)))
  all_goals
   first
    |(have HF:=aa (((bV.ext (aj w).drew p m).trans (bV.ext dE p m)).trans fC);have HR:=aa hC)
    |(have HF:=aa (((bV.ext (aj w).drew p m).trans fC).trans (bV.ext dE p mC));have HR:=aa (hC.more dE))
   clear hC fC aT aU;go_wp2_with fail;refine(Ac.out _ _ HR.out).mono ?_;rintro e w3 ⟨rfl,hX⟩;have HX:=aa hX;clear hX;go_wp2_with fail;exact bodyPost_ret (v:=.tuple #[]) (by simp[results,results108,go_sem]) rfl (bY.then HF.out ⟨rfl,HX.out⟩)
theorem FH(H:RN w X p c A n k t m q r s o)(HB:Mo.RB c N r)(hN:N<=100000)(hq:q<=900000)(h1:1<=r.k.pc)(h5:r.k.pc<=5):Calls prog 108 #[.pointer p] w (bY X p c A n k t m (q+1) (Mo.Rn.enter c t r) w):=by
 rcases(by omega:r.k.pc=1\/r.k.pc=2\/r.k.pc=3\/r.k.pc=4\/r.k.pc=5)with h|h|h|h|h
 ·exact SH H HB hN hq h
 ·exact SJ H HB hN hq h
 ·exact SI H HB hq h
 ·exact SK H hq h
 ·exact SL H HB hN hq h
end
theorem xj{P:Prop}(h:P:=by with_reducible(repeat(first|assumption|exact Ext.start _|exact Ext.fZ _ _|refine Ext.alloc ?_ _|refine Ext.set ?_ (by simp;try omega)))):P:=h
section
variable(w:World) {c:Mo.bH} {A:Option Addr} {k n:Nat}
theorem pP(hc:Mo.aN c=true)(hn:n=c.start.length)(hr:bC w .i64 A c.start):Calls prog 41 #[mH c A n k] w fun e w'=>e=.returned oZ/\Below w w w':=by refine(za w hn hr).mono ?_;rintro e w' ⟨r,rfl,h,hb⟩;rw[h.2 hc];exact⟨rfl,hb⟩
theorem Ow(hc:Mo.aN c=true)(hn:n=c.start.length)(hr:bC w .i64 A c.start):Calls prog 83 #[mH c A n k] w fun e w'=>e=.returned (Mo.dm c)/\Below w w w':=by
 have HC:=aa (pP (w.alloc (cr c A n k)) hc hn (hr.alloc _) (k:=k));have hb:=BP hc;obtain⟨ht,_⟩:=aG hc;have PF:c.chans*c.cap<=8*16:=Int.le_trans (Int.mul_le_mul_of_nonneg_right hb.2.2.2 ae) (Int.mul_le_mul_of_nonneg_left ae ah);have GH:0<=c.chans*c.cap:=gO hb.2.2.1 ae;have HS:Hid (Mo.dm c=if c.kind=3 then 1+c.chans+c.chans*c.cap+4*c.threads else c.cap+1):=by unfold Hid Mo.dm;rw[hc,ai ah,Int.mul_add];split<;>omega
 have e1:IntKind.i64.wrap (1+c.chans)=1+c.chans:=bK _ ae;have e2:IntKind.i64.wrap (c.chans*c.cap)=c.chans*c.cap:=bK _ ae;have e3:IntKind.i64.wrap (1+c.chans+c.chans*c.cap)=1+c.chans+c.chans*c.cap:=bK _ ae;have e4:IntKind.i64.wrap (4*c.threads)=4*c.threads:=bK _ ae;have e5:IntKind.i64.wrap (1+c.chans+c.chans*c.cap+4*c.threads)=1+c.chans+c.chans*c.cap+4*c.threads:=bK _ ae;have e6:IntKind.i64.wrap (c.cap+1)=c.cap+1:=bK _ ae;clear hb ht PF GH hn hr hc;have EO:(c.kind==3)=true\/(c.kind==3)=false:=by cases c.kind==3<;>simp
 have HKK:Hid ((c.kind==3)=decide (c.kind=3)):=rfl;rcases EO with hk|hk
 all_goals
  have qE:=aa hk;unfold mH at *;go_enter func83,ntmps83;go_wp2_with fail;refine HC.mono ?_;rintro e w1 ⟨rfl,hb⟩;have HB:=aa (ag (ak (aj w) (cr c A n k)) hb);have HK:Hid (af w1 w.heap.size 24 #[c.kind,c.threads,c.chans,c.cap,c.nodes,c.aJ,c.aB,c.tags,c.bn,c.ba,.slice A n k]):=(af.new w _ _).ag hb;clear hb;obtain⟨hcc,-,gH⟩:=af.aK HK;go_wp2_with fail;go_ret;rw[HS.out];refine⟨?_,HB⟩;have h:=HKK.symm.trans qE;simp only[cU,decide_eq_false_iff_not]at h;first|(rw[au h];rfl)|(rw[ai h];rfl)
theorem Ox(hc:Mo.aN c=true)(hn:n=c.start.length)(hr:bC w .i64 A c.start):Calls prog 51 #[mH c A n k] w fun e w'=>e=.returned (Mo.aZ c)/\Below w w w':=by
 have HC:=aa (pP (w.alloc (cr c A n k)) hc hn (hr.alloc _) (k:=k));have HS:Hid (Mo.aZ c=Mo.dm c+c.threads):=by unfold Hid Mo.aZ;rw[hc];rfl
 have hle:=rH hc;obtain⟨ht,_⟩:=aG hc;have HST:=aa (fun w' (hb:Below w w w')=>Ow w' hc hn (hr.below hb) (k:=k));obtain⟨s,hs⟩:=aD (Mo.dm c);rw[<-hs]at HS hle HST;have e1:IntKind.i64.wrap (s+c.threads)=s+c.threads:=bK _ ae;clear hn hr hc hs hle ht;unfold mH at *;go_enter func51,ntmps51;go_wp2_with fail;refine HC.mono ?_;rintro e w1 ⟨rfl,hb⟩;have HB:=aa (ag (ak (aj w) (cr c A n k)) hb);have HK:Hid (af w1 w.heap.size 24 #[c.kind,c.threads,c.chans,c.cap,c.nodes,c.aJ,c.aB,c.tags,c.bn,c.ba,.slice A n k]):=(af.new w _ _).ag hb;clear hb;obtain⟨hcc,-,gH⟩:=af.aK HK;go_wp2_with fail;have aT:=fun wx (hx:Ext w1 wx) i=>af.cell (HK.ag hx.out) i;have Cz:=aa (fun wx (hx:Ext w1 wx)=>HST wx (ag HB hx.out));clear hcc gH;go_region_held3(Ext w1) (exact xj) (((with_reducible refine(Cz.out _ (by assumption)).mono ?_);rintro e wA ⟨rfl,bN⟩;have kC:=Ext.to (by assumption) bN));all_goals
  clear aT;go_wp2_with fail;go_ret;rw[HS.out];exact⟨rfl,ag HB kC.out⟩
theorem CS(hc:Mo.aN c=true)(hn:n=c.start.length)(hr:bC w .i64 A c.start):Calls prog 13 #[mH c A n k] w fun e w'=>e=.returned (Mo.bI c)/\Below w w w':=by
 have HC:=aa (pP (w.alloc (cr c A n k)) hc hn (hr.alloc _) (k:=k));obtain⟨ht,hnd,_⟩:=aG hc;have PF:c.threads*c.nodes<=64*64:=Int.mul_le_mul ht.2 hnd.2 ae ae;have GH:0<=c.threads*c.nodes:=gO ae ae;have HS:Hid (Mo.bI c=c.threads*c.nodes+1):=by unfold Hid Mo.bI;rw[hc,ai ah];omega
 have e1:IntKind.i64.wrap (c.threads*c.nodes)=c.threads*c.nodes:=bK _ ae;have e2:IntKind.i64.wrap (c.threads*c.nodes+1)=c.threads*c.nodes+1:=bK _ ae;clear ht hnd PF GH hn hr hc;unfold mH at *;go_enter func13,ntmps13;go_wp2_with fail;refine HC.mono ?_;rintro e w1 ⟨rfl,hb⟩;have HB:=aa (ag (ak (aj w) (cr c A n k)) hb);have HK:Hid (af w1 w.heap.size 24 #[c.kind,c.threads,c.chans,c.cap,c.nodes,c.aJ,c.aB,c.tags,c.bn,c.ba,.slice A n k]):=(af.new w _ _).ag hb;clear hb;obtain⟨hcc,-,gH⟩:=af.aK HK;go_wp2_with fail;go_ret;rw[HS.out];exact⟨rfl,HB⟩
theorem CT(hc:Mo.aN c=true)(hn:n=c.start.length)(hr:bC w .i64 A c.start):Calls prog 35 #[mH c A n k] w fun e w'=>e=.returned (Mo.bo c)/\Below w w w':=by
 have HC:=aa (pP (w.alloc (cr c A n k)) hc hn (hr.alloc _) (k:=k));obtain⟨ht,hnd,_⟩:=aG hc;have PF:c.threads*c.nodes<=64*64:=Int.mul_le_mul ht.2 hnd.2 (by omega) (by omega);have GH:0<=c.threads*c.nodes:=gO (by omega) (by omega);have hN:Mo.bI c=1+c.threads*c.nodes:=by unfold Mo.bI;rw[hc,ai (by decide)]
 have hs1:=rH hc;have hs2:Mo.aZ c=Mo.dm c+c.threads:=by unfold Mo.aZ;rw[hc];rfl
 have HST:=aa (fun w' (hb:Below w w w')=>Ox w' hc hn (hr.below hb) (k:=k));have yb:=aa (fun w' (hb:Below w w w')=>CS w' hc hn (hr.below hb) (k:=k));have HS:Hid (Mo.bo c=3+9*c.threads+Mo.bI c*(1+Mo.aZ c)):=by unfold Hid Mo.bo Mo.bA;rw[hc,ai (by decide)];omega
 obtain⟨s,hs⟩:∃s,s=Mo.aZ c:=⟨_,rfl⟩
 obtain⟨d,hd⟩:∃d,d=Mo.bI c:=⟨_,rfl⟩
 rw[<-hs]at HS HST hs2;rw[<-hd]at HS yb hN;have Ij:d*(1+s)<=5000*2000:=Int.mul_le_mul (by omega) (by omega) (by omega) (by omega);have hq0:0<=d*(1+s):=gO (by omega) (by omega);have e1:IntKind.i64.wrap (9*c.threads)=9*c.threads:=bK _ (by omega);have e2:IntKind.i64.wrap (3+9*c.threads)=3+9*c.threads:=bK _ (by omega);have e3:IntKind.i64.wrap (1+s)=1+s:=bK _ (by omega);have e4:IntKind.i64.wrap (d*(1+s))=d*(1+s):=bK _ (by omega);have e5:IntKind.i64.wrap (3+9*c.threads+d*(1+s))=3+9*c.threads+d*(1+s):=bK _ (by omega);clear hn hr hc hs hd ht hnd PF GH hN hs1 hs2 Ij hq0;unfold mH at *;go_enter func35,ntmps35;go_wp2_with fail;refine HC.out.mono ?_;rintro e w1 ⟨rfl,hb⟩;have HB:=aa (ag (ak (aj w) (cr c A n k)) hb);have HK:Hid (af w1 w.heap.size 24 #[c.kind,c.threads,c.chans,c.cap,c.nodes,c.aJ,c.aB,c.tags,c.bn,c.ba,.slice A n k]):=(af.new w _ _).ag hb;clear hb;obtain⟨hcc,-,gH⟩:=af.aK HK.out;go_wp2_with fail;have aT:=fun wx (hx:Ext w1 wx) i=>af.cell (HK.out.ag hx.out) i;have Cz:=aa (fun wx (hx:Ext w1 wx)=>HST.out wx (ag HB.out hx.out));have qQ:=aa (fun wx (hx:Ext w1 wx)=>yb.out wx (ag HB.out hx.out));clear hcc gH;go_region_held3(Ext w1) (exact xj) (first
  |((with_reducible refine(Cz.out _ (by assumption)).mono ?_);rintro e wA ⟨rfl,bN⟩;have kC:=Ext.to (by assumption) bN)
  |((with_reducible refine(qQ.out _ (by assumption)).mono ?_);rintro e wB ⟨rfl,dE⟩;have lK:=Ext.to (by assumption) dE))
 all_goals
  clear aT;go_wp2_with fail;go_ret;rw[HS.out];first|exact⟨rfl,ag HB.out kC.out⟩|exact⟨rfl,ag HB.out lK.out⟩
theorem J6(hn:n=c.start.length)(hr:bC w .i64 A c.start):Calls prog 34 #[mH c A n k] w fun e w'=>∃r,e=.returned (.int .i64 r)/\(r=0->Mo.aN c=true/\Mo.bo c<=1048576)/\Below w.heap.size w w':=by
 have HC:=aa (za (w.alloc (cr c A n k)) hn (hr.alloc _) (k:=k));have AQ:=aa (fun w' (hc:Mo.aN c=true) (hb:Below w.heap.size w w')=>CT w' hc hn (hr.below hb) (k:=k));clear hn hr;unfold mH at *;go_enter func34,ntmps34;go_wp2_with fail;refine HC.mono ?_;rintro e w1 ⟨r,rfl,hr,hb⟩;have HB:=aa (ag (ak (aj w) (cr c A n k)) hb);have HK:Hid (af w1 w.heap.size 24 #[c.kind,c.threads,c.chans,c.cap,c.nodes,c.aJ,c.aB,c.tags,c.bn,c.ba,.slice A n k]):=(af.new w _ _).ag hb;clear hb;obtain⟨hcc,-,gH⟩:=af.aK HK;by_cases h0:r=0
 ·have HR:=aa (hr.1 h0);subst h0;clear hr;go_wp2_with fail;refine(AQ w1 HR HB).mono ?_;rintro e w2 ⟨rfl,hb⟩;have bq:=aa (ag HB hb);clear hb hcc gH;by_cases hT:Mo.bo c<=1048576
  ·have d1:decide (1048576<Mo.bo c)=false:=bJ ae;have HT:=aa hT;clear hT;go_wp2_with fail;go_ret;exact⟨0,rfl,fun _=>⟨HR,HT⟩,bq⟩
  ·have d1:decide (1048576<Mo.bo c)=true:=dg ae;clear hT;go_wp2_with fail;go_ret;exact⟨4,rfl,fun h=>absurd h ah,bq⟩
 ·have d1:(r !=0)=true:=by simpa using h0
  clear hr;go_wp2_with fail;go_ret;exact⟨1,rfl,fun h=>absurd h ah,HB⟩
end
section
variable(w:World) {c:Mo.bH} {A:Option Addr} {k n:Nat}
def Sm3(c:Mo.bH):Prop:=Mo.aN c=true/\c.threads<=4/\Mo.bo c<=4000
def SmE(c:Mo.bH)(w:World)(e:Ending)(w':World):Prop:=∃b,e=.returned (.bool b)/\(b=true->Sm3 c)/\Below w w w'
theorem J7(hn:n=c.start.length)(hr:bC w .i64 A c.start):Calls prog 9 #[mH c A n k] w (SmE c w):=by
 have HC:=aa (J6 (w.alloc (cr c A n k)) hn (hr.alloc _) (k:=k));have AQ:=aa (fun w' (hc:Mo.aN c=true) (hb:Below w w w')=>CT w' hc hn (hr.below hb) (k:=k));clear hn hr;unfold mH at *;go_enter func9,ntmps9;go_wp2_with fail;refine HC.mono ?_;rintro e w1 ⟨r,rfl,hr,hb⟩;have HB:=aa (ag (ak (aj w) (cr c A n k)) hb);have HK:Hid (af w1 w.heap.size 24 #[c.kind,c.threads,c.chans,c.cap,c.nodes,c.aJ,c.aB,c.tags,c.bn,c.ba,.slice A n k]):=(af.new w _ _).ag hb;clear hb;obtain⟨hcc,-,gH⟩:=af.aK HK;by_cases h0:r=0
 ·have HR:=aa (hr h0);subst h0;clear hr;by_cases ht:c.threads<=4
  ·have HT:=aa ht;go_wp2_with fail;refine(AQ w1 HR.1 HB).mono ?_;rintro e w2 ⟨rfl,hb⟩;have bq:=aa (ag HB hb);clear hb hcc gH;go_wp2_with fail;go_ret;exact⟨_,rfl,fun h=>⟨HR.1,HT,by simpa using h⟩,bq⟩
  ·go_wp2_with fail;go_ret;exact⟨_,rfl,fun h=>(by cases h),HB⟩
 ·have d1:(r==0)=false:=by simpa using h0
  clear hr;go_wp2_with fail;go_ret;exact⟨_,rfl,fun h=>(by cases h),HB⟩
theorem J8:Calls prog 36 #[] w fun e w'=>∃A k,e=.returned (mH Mo.vo A 2 k)/\bC w' .i64 A [0,1]/\Below w w w':=by
 go_enter func36,ntmps36;go_wp2_with fail;refine bodyPost_ret (v:=?_) ?_ rfl ?_;rotate_left
 ·simp[results,results36,go_sem];rfl
 ·refine⟨some ⟨w.heap.size+1,0,none⟩,2,rfl,?_,ak (ak (aj _) _) _⟩;exact Rd.Bd _ [oZ,.int .i64 1] 3 aF
end
end Go.Proofs.YtjcjjiieblineaaGreat
