/- Walks and plain facts. No condition. -/
import Derived.Test.YtjcjjiieblineaaGreatSc
import Derived.Test.YtjcjjiieblineaaGreatPe
import Derived.Test.YtjcjjiieblineaaGreatPi
namespace Go.Proofs.YtjcjjiieblineaaGreat
open Go.RowKit Go.Proofs.Tryz
set_option maxHeartbeats 8000000
set_option maxRecDepth 100000
set_option linter.all false
variable {w w':World}{n g base k m i j q d m3 m1 n1 n3 m2 base' dd n2 g1 m4 d1 d2 d3:Nat}{α:Type}{A A1 A3 B A2 D B1 A4 B2 B3:Option Addr}{c:Mo.bH}{e ty:TypeId}{v u v1 v3:Value}{h:Mo.Hl}{x:Mo.Wt}{hd seq sq:Int}{ys:Array Value}
theorem nk(hf:Mo.cC h hd=some i):∃x,h.chans[i]?=some x/\x.used=true/\(Mo.ew hd).2.2=true/\x.gen=(Mo.ew hd).2.1/\i=(Mo.ew hd).1.toNat:=by
 unfold Mo.cC at hf;split at hf
 ·cases hf
 ·rename_i hp;split at hf
  ·cases hf
  ·rename_i x hx;split at hf
   ·rename_i hu;injection hf with hf
    subst hf;exact⟨x,hx,hu.1,by simpa using hp,hu.2,rfl⟩
   ·cases hf
section
variable(w:World) {base g:Nat} {c:Mo.bH} {A:Option Addr} {n k:Nat} {t sq:Int} {h:Mo.Hl} {A1 A2 A3:Option Addr} {m1 m2 m3:Nat}
theorem NW(H:dx w base g c A n k t sq h A1 A2 A3 m1 m2 m3)(hb:RQ h)(hd:Int) :
 Calls prog 275 #[.pointer g,hd] w (KS base g c A n k t sq A1 A3 m1 m3 (Mo.oJ h hd) w):=by
 have bG:Hid (Below w w (w.alloc ij)):=ak (aj w) _
 have kK:Hid (af (w.alloc ij) w.heap.size 48 #[oZ,oZ,oZ,oZ]):=af.new _ _ _
 have qF:=aa (H.more bG)
 have pH:=aa H.uo
 have eP:base<=w.heap.size:=bm H.low (Nat.le_of_lt H.blk.lt)
 obtain⟨cQ,-,fV⟩:=af.aK qF.blk
 unfold mI at cQ
 have Jh:g<w.heap.size:=H.blk.lt
 have yL:=aa hb
 have nh:=aa (fun wx (uD:Below w w wx)=>nj wx h.ay A1 m1 h.chans rfl ((H.more uD).Dx) (.slice A2 h.waits.length m2) (.slice A3 h.done.length m3) h.waits h.done hd)
 obtain⟨r,hr⟩:=aD (Mo.cC h hd)
 have e0:Mo.cC ⟨h.ay,h.chans,h.waits,h.done⟩ hd=r:=hr.symm
 rw[e0]at nh
 have xx:=aa hr
 have rW:=aa H.P2
 clear hr e0
 cases r with
 |none =>
  have HG:Hid (Mo.oJ h hd=(h,Mo.bD 8)):=by unfold Hid Mo.oJ;rw[<-xx.out]
  clear H hb;go_enter func275,ntmps275;go_wp2_with fail;refine(nh _ bG).mono ?_;rintro e w1 ⟨rfl,hb1⟩;have bj:=aa ((bG.mono eP).trans (hb1.mono (by simp;omega)));have uf:=aa (ag bG hb1);have np:=aa (qF.more hb1);have iE:=aa (kK.ag hb1);clear hb1 cQ fV;obtain⟨dh,cW,-⟩:=af.aK iE;have cY:=af.lt iE;have cQ:=fun i=>af.cell (dx.blk np) i;have fV:=af.lt (dx.blk np);unfold mI at cQ;go_wp2_with fail;have dZ:=aR (vs:=[oZ,oZ,.int .i64 8,oZ]) iE rfl;have uS:=dx.far np pH (aS _) iE ah ah 0 [oZ,oZ,.int .i64 8,oZ];have fy:Below base w (av w1 w.heap.size 0 [oZ,oZ,.int .i64 8,oZ]):=aw eP _ _ _ bj;change bodyPost _ _ _ _ _ (av w1 w.heap.size 0 [oZ,oZ,.int .i64 8,oZ]);have uT:=rW.out _ ((ku.ext uf).new (q:=w.heap.size) ae 0 [oZ,oZ,.int .i64 8,oZ]);clear dh cW cY cQ fV;generalize av w1 w.heap.size 0 [oZ,oZ,.int .i64 8,oZ]=wz at *;have eO:=fun i=>af.cell dZ i;refine bodyPost_ret (v:=.agg #[oZ,oZ,.int .i64 8,oZ]) ?_ rfl ?_
  ·exact Xl
  ·exact Uz
 |some i =>
  obtain⟨x,hx,hu,hrst⟩:=nk xx.symm;clear hrst;have LS:x.buf.length<=90000:=hb.buf x (bP hx);have E9:=aa (fun wx (uD:Below w w wx) (B:Option Addr) (d:Nat) (jD:bC wx .i64 B x.buf)=>Nu wx x B x.buf.length d rfl LS jD A2 m2 h.waits rfl hb.waits ((H.more uD).Uw) (fun y hy=>hb.cases y hy) hd hu);have hch:Mo.gD h i=x:=by unfold Mo.gD;rw[eR,hx];rfl
  have HG:Hid (Mo.oJ h hd=if Mo.vk x hd h.waits=false then(h,Mo.bD 13)else({h with chans:=h.chans.set i ⟨x.gen,0,false,false,[]⟩},Mo.dC)):=by unfold Hid Mo.oJ;rw[<-xx.out];dsimp only;rw[hch]
  have HX:=aa hx;have vE:i<h.chans.length:=cE hx;clear H hb hch;go_enter func275,ntmps275;go_wp2_with fail;refine(nh _ bG).mono ?_;rintro e w1 ⟨rfl,hb1⟩;have bj:=aa (ag bG hb1);have np:=aa (qF.more hb1);have iE:=aa (kK.ag hb1);obtain⟨ad,B,d,hA,Co,jD,c0,c1,c2,c3,c4⟩:=oD.row np.Dx hx;have lB:=aa jD;subst hA;rw[hu]at c2 E9;obtain⟨bl,hbl⟩:=aD x.buf.length;rw[<-hbl]at c4 E9;have i1:(0:Int)<=(i:Int):=ae;have i2:(i:Int)<(h.chans.length:Int):=ae;clear hb1 cQ fV hx hu hbl Co jD LS;obtain⟨cQ,-,fV⟩:=af.aK np.blk;unfold mI at cQ;go_wp2_with fail;go_still_tail 14,(by kernel_rfl)
  change wpList _ _ _ _ _ w1.drew;have HVd:=aa (np.more (aj w1).drew);have HQd:Hid (af w1.drew _ _ _):=iE.out;have JI:=aa bj.drew;have aa8:=aa (lB.below (aj w1).drew);generalize w1.drew=wd at *;clear cQ fV c0 c1 c2 c3 c4 np iE bj lB;go_wp2_with fail;refine(E9 _ JI B d aa8).mono ?_;rintro e w2 ⟨rfl,hb2⟩;have bq:=aa ((JI.mono eP).trans (hb2.mono (bm eP JI.size)));have uf:=aa (ag JI hb2);have Ai:=aa (HVd.more hb2);have gp:=aa (HQd.ag hb2);clear hb2 E9 HVd HQd JI aa8;obtain⟨dh,cW,-⟩:=af.aK gp;have cY:=af.lt gp;have cQ:=fun i=>af.cell (dx.blk Ai) i;have fV:=af.lt (dx.blk Ai);unfold mI at cQ;rcases hid:Mo.vk x hd h.waits with _|_
  ·have GW:Hid (Mo.oJ h hd=(h,Mo.bD 13)):=by unfold Hid;rw[HG.out,au hid]
   clear hid;go_wp2_with fail;have dZ:=aR (vs:=[oZ,oZ,.int .i64 13,oZ]) gp rfl;have uS:=dx.far Ai pH (aS _) gp ah ah 0 [oZ,oZ,.int .i64 13,oZ];have fy:Below base w (av w2 w.heap.size 0 [oZ,oZ,.int .i64 13,oZ]):=aw eP _ _ _ bq;change bodyPost _ _ _ _ _ (av w2 w.heap.size 0 [oZ,oZ,.int .i64 13,oZ]);have uT:=rW.out _ ((ku.ext uf).new (q:=w.heap.size) ae 0 [oZ,oZ,.int .i64 13,oZ]);clear dh cW cY cQ fV;generalize av w2 w.heap.size 0 [oZ,oZ,.int .i64 13,oZ]=wz at *;have eO:=fun i=>af.cell dZ i;refine bodyPost_ret (v:=.agg #[oZ,oZ,.int .i64 13,oZ]) ?_ rfl ?_
   ·exact Xl
   ·exact NF
  ·have GW:Hid (Mo.oJ h hd=({h with chans:=h.chans.set i ⟨x.gen,0,false,false,[]⟩},Mo.dC)):=by unfold Hid;rw[HG.out,ai (by rw[hid];decide)]
   clear hid;obtain⟨g1,mm,hv,hg0,hg1'⟩:=Ai.chans.form (by have:=bP HX;intro he;rw[he]at this;cases this);injection hv with e1 e2 e3
   injection e1 with e1
   subst e1 e3;clear e2;obtain⟨ad,B2,d2,hA,_,_,c0,c1,c2,c3,c4⟩:=oD.row Ai.Dx HX;injection hA with hA
   subst hA;have f0:=Ai.chans.ck (i*5);have f1:=Ai.chans.ck (i*5+1);have f2:=Ai.chans.ck (i*5+2);have f3:=Ai.chans.ck (i*5+3);have f4:=Ai.chans.ck (i*5+4);rw[nC,Nat.zero_add]at c0 c1 c2 c3 c4;dsimp only at c1 c2 c3 c4;have W7:g1<w.heap.size:=pH.2.1 g1 rfl;go_wp2_with fail;go_region;all_goals
    go_wp2_with fail;have KT:yY g w.heap.size {h with chans:=h.chans.set i ⟨x.gen,0,false,false,[]⟩} g1 A2 A3 m1 m2 m3:=by unfold yY;dsimp only;rw[cK];exact pH.out
    have W8:=Ai.Nz (i:=i) vE ⟨x.gen,0,false,false,[]⟩ none 0 (aS _) (bC.nil _ _ _) (fun b hb=>by cases hb);have sf:=aW gp (b:=w.heap.size) (g:=g1) ae [x.gen,oZ,false,false,oN] (i*5);have oU:Below base w (av w2 g1 (i*5) [x.gen,oZ,false,false,oN]):=aw hg0 _ _ _ bq;clear c0 c1 c2 c3 c4 f0 f1 f2 f3 f4;have hD:=(aj (av (av w2 g1 (i*5) [x.gen,oZ,false,false,oN]) w.heap.size 0 [oZ,oZ,oZ,oZ])).drew;have dZ:=(aR (vs:=[oZ,oZ,oZ,oZ]) sf rfl).ag hD;have uS:=(dx.far W8 KT (aS _) sf ah ah 0 [oZ,oZ,oZ,oZ]).more hD;have fy:Below base w (av (av w2 g1 (i*5) [x.gen,oZ,false,false,oN]) w.heap.size 0 [oZ,oZ,oZ,oZ]).drew:=(aw eP _ _ _ oU).drew;change bodyPost _ _ _ _ _ (av (av w2 g1 (i*5) [x.gen,oZ,false,false,oN]) w.heap.size 0 [oZ,oZ,oZ,oZ]).drew;have uT:=rW.out _ (ku.drew (((ku.ext uf).RS (q:=g1) rfl (i*5) [x.gen,oZ,false,false,oN]).new (q:=w.heap.size) ae 0 [oZ,oZ,oZ,oZ]));clear dh cW cY cQ fV hD;generalize(av (av w2 g1 (i*5) [x.gen,oZ,false,false,oN]) w.heap.size 0 [oZ,oZ,oZ,oZ]).drew=wz at *;have eO:=fun i=>af.cell dZ i;refine bodyPost_ret (v:=.agg #[oZ,oZ,oZ,oZ]) ?_ rfl ?_
    ·exact Xl
    ·exact NF
end
section
variable(w:World) {base g:Nat} {c:Mo.bH} {A:Option Addr} {n k:Nat} {t sq:Int} {h:Mo.Hl} {A1 A2 A3:Option Addr} {m1 m2 m3:Nat}
theorem Cw(H:dx w base g c A n k t sq h A1 A2 A3 m1 m2 m3)(q:Mo.Rq)(D:Option Addr)(ql qd:Nat) :
 Calls prog 278 #[.pointer g,.agg #[q.kind,q.arg,q.value,q.dflt,.slice D ql qd]] w (KS base g c A n k t sq A1 A3 m1 m3 (h,Mo.n7 h q) w):=by
 have bG:Hid (Below w w ((w.alloc (iG q D ql qd)).alloc ij)):=ak (ak (aj w) _) _
 have gV:Hid (af ((w.alloc (iG q D ql qd)).alloc ij) w.heap.size 42 #[q.kind,q.arg,q.value,q.dflt,.slice D ql qd]):=(af.new _ _ _).alloc _
 have kK:Hid (af ((w.alloc (iG q D ql qd)).alloc ij) (w.heap.size+1) 48 #[oZ,oZ,oZ,oZ]):=(af.newAt _ _ _ (by simp))
 have qF:=aa (H.more bG.out)
 have pH:=aa H.uo
 have eP:base<=w.heap.size:=bm H.low (Nat.le_of_lt H.blk.lt)
 have Jh:g<w.heap.size:=H.blk.lt
 have nh:=aa (fun wx (uD:Below w w wx)=>nj wx h.ay A1 m1 h.chans rfl ((H.more uD).Dx) (.slice A2 h.waits.length m2) (.slice A3 h.done.length m3) h.waits h.done q.arg)
 obtain⟨r,hr⟩:∃r,r=Mo.cC h q.arg:=⟨_,rfl⟩
 have e0:Mo.cC ⟨h.ay,h.chans,h.waits,h.done⟩ q.arg=r:=hr.symm
 rw[e0]at nh
 have xx:=aa hr
 have JI:=aa bG.out.drew
 have rW:=aa H.P2
 clear hr e0 H
 go_enter func278,ntmps278
 go_wp2_with fail
 generalize((w.alloc (iG q D ql qd)).alloc ij)=wv at *
 obtain⟨hck0,hfk0,-⟩:=af.aK gV.out
 have ac3:=af.lt gV.out
 have cQ:=fun i=>af.cell (dx.blk qF.out) i
 have fV:=af.lt (dx.blk qF.out)
 unfold mI at cQ
 have HVd:=aa (qF.out.more (aj _).drew)
 have HKd:Hid (af wv.drew w.heap.size 42 #[q.kind,q.arg,q.value,q.dflt,.slice D ql qd]):=gV.out
 have HQd:Hid (af wv.drew (w.heap.size+1) 48 #[oZ,oZ,oZ,oZ]):=kK.out
 go_region_law(first
  |(go_simp;go_at_call 283;(with_reducible refine(nh.out _ JI.out).mono ?_);rintro e w1 ⟨rfl,hb1⟩;go_wp2_with fail))
 all_goals
  clear cQ fV hck0 hfk0 ac3 gV kK qF bG;have np:=aa (HVd.out.more hb1);have iE:=aa (HQd.out.ag hb1);have fh:=aa (HKd.out.ag hb1);have bj:=aa ((JI.out.mono eP).trans (hb1.mono (bm eP JI.out.size)));have uf:=aa (ag JI.out hb1);clear hb1 HVd HQd HKd JI nh;obtain⟨dh,cW,-⟩:=af.aK iE.out;have cY:=af.lt iE.out;have cQ:=fun i=>af.cell (dx.blk np.out) i;have fV:=af.lt (dx.blk np.out);unfold mI at cQ;obtain⟨fU,-,km⟩:=af.aK fh.out;cases r with
  |none =>
   have HG:Hid (Mo.n7 h q=Mo.bD 8):=by unfold Hid Mo.n7;rw[<-xx.out]
   go_wp2_with fail;clear fU km;have dZ:=aR (vs:=[oZ,oZ,.int .i64 8,oZ]) iE.out rfl;have uS:=dx.far np.out pH.out (bU _) iE.out (by decide) (by decide) 0 [oZ,oZ,.int .i64 8,oZ];have fy:Below base w (av w1 (w.heap.size+1) 0 [oZ,oZ,.int .i64 8,oZ]):=aw (bm eP (bU _)) _ _ _ bj.out;change bodyPost _ _ _ _ _ (av w1 (w.heap.size+1) 0 [oZ,oZ,.int .i64 8,oZ]);have uT:=rW.out _ ((ku.ext uf.out).new (q:=(w.heap.size+1)) (by omega) 0 [oZ,oZ,.int .i64 8,oZ]);clear dh cW cY cQ fV;generalize av w1 (w.heap.size+1) 0 [oZ,oZ,.int .i64 8,oZ]=wz at *;have eO:=fun i=>af.cell dZ i;refine bodyPost_ret (v:=.agg #[oZ,oZ,.int .i64 8,oZ]) ?_ rfl ?_
   ·exact Xm
   ·exact Uz
  |some i =>
   obtain⟨x,hx,hu,hrst⟩:=nk xx.out.symm;clear hrst;have vE:i<h.chans.length:=cE hx;have hch:Mo.gD h i=x:=by unfold Mo.gD;rw[eR,hx];rfl
   have HG:Hid (Mo.n7 h q=if q.kind=6 then⟨0,0,0,x.cap⟩else⟨0,0,0,x.buf.length⟩):=by unfold Hid Mo.n7;rw[<-xx.out];dsimp only;rw[hch]
   obtain⟨ad,B,d,hA,Co,jD,c0,c1,c2,c3,c4⟩:=oD.row np.out.Dx hx;subst hA;obtain⟨bl,hbl⟩:∃bl,bl=x.buf.length:=⟨_,rfl⟩
   rw[<-hbl]at c4 HG;have i1:(i:Int)<(h.chans.length:Int):=by omega
   clear hx hu hch Co jD hbl c0 c2 c3;by_cases hk:q.kind=6
   ·have GW:Hid (Mo.n7 h q=⟨0,0,0,x.cap⟩):=by unfold Hid;rw[HG.out,au hk]
    have d1:(q.kind==6)=true:=by simpa using hk
    clear hk;go_wp2_with fail;clear fU km c1 c4;have dZ:=aR (vs:=[oZ,oZ,oZ,x.cap]) iE.out rfl;have uS:=dx.far np.out pH.out (bU _) iE.out (by decide) (by decide) 0 [oZ,oZ,oZ,x.cap];have fy:Below base w (av w1 (w.heap.size+1) 0 [oZ,oZ,oZ,x.cap]):=aw (bm eP (bU _)) _ _ _ bj.out;change bodyPost _ _ _ _ _ (av w1 (w.heap.size+1) 0 [oZ,oZ,oZ,x.cap]);have uT:=rW.out _ ((ku.ext uf.out).new (q:=(w.heap.size+1)) (by omega) 0 [oZ,oZ,oZ,x.cap]);clear dh cW cY cQ fV;generalize av w1 (w.heap.size+1) 0 [oZ,oZ,oZ,x.cap]=wz at *;have eO:=fun i=>af.cell dZ i;refine bodyPost_ret (v:=.agg #[oZ,oZ,oZ,x.cap]) ?_ rfl ?_
    ·exact Xm
    ·exact NF
   ·have GW:Hid (Mo.n7 h q=⟨0,0,0,bl⟩):=by unfold Hid;rw[HG.out,ai hk]
    have d1:(q.kind==6)=false:=by simpa using hk
    clear hk;go_wp2_with fail;clear fU km c1 c4;have dZ:=aR (vs:=[oZ,oZ,oZ,bl]) iE.out rfl;have uS:=dx.far np.out pH.out (bU _) iE.out (by decide) (by decide) 0 [oZ,oZ,oZ,bl];have fy:Below base w (av w1 (w.heap.size+1) 0 [oZ,oZ,oZ,bl]):=aw (bm eP (bU _)) _ _ _ bj.out;change bodyPost _ _ _ _ _ (av w1 (w.heap.size+1) 0 [oZ,oZ,oZ,bl]);have uT:=rW.out _ ((ku.ext uf.out).new (q:=(w.heap.size+1)) (by omega) 0 [oZ,oZ,oZ,bl]);clear dh cW cY cQ fV;generalize av w1 (w.heap.size+1) 0 [oZ,oZ,oZ,bl]=wz at *;have eO:=fun i=>af.cell dZ i;refine bodyPost_ret (v:=.agg #[oZ,oZ,oZ,bl]) ?_ rfl ?_
    ·exact Xm
    ·exact NF
end
section
variable{w w':World} {base g:Nat} {c:Mo.bH} {A:Option Addr} {n k:Nat} {t sq:Int} {h:Mo.Hl} {A1 A2 A3:Option Addr} {m1 m2 m3:Nat}
theorem dx.Xn(H:dx w base g c A n k t sq h A1 A2 A3 m1 m2 m3)(hy:af w q ty ys)(h1:ty≠287):g≠q:=by
 rintro rfl;have:=H.blk;unfold af at this hy;rw[hy]at this;injection this with this
 injection this with _ h _
 exact h1 h
theorem dx.JJ(H:dx w base g c A n k t sq h A1 A2 A3 m1 m2 m3)(hy:af w q ty ys)(h1:ty≠3)(h2:ty≠110)(h3:ty≠287)(h4:83≠ty)(h5:79≠ty)(h6:∀b,(Value.slice A3 h.done.length m3).ownBlock=some b->b≠q)(o:Nat)(vs:List Value):dx (av w q o vs) base g c A n k t sq h A1 A2 A3 m1 m2 m3:=by
 have mi:∀b,gJ w b->b≠q:=fun b hb he=>by subst he;exact gJ.not hy h1 h2 hb
 refine⟨aW H.blk (H.Xn hy h3) _ _,?_,?_,bR h6 _ _ _ _ H.done,H.low⟩
 ·exact(aH.move b9 H.chans (fun b hb=>aM (mi b hb) _ _) (fun b hb=>aM (H.chans.other hy h4 b hb) _ _)).mono b9 (fun b hb=>eT _ _ _ hb)
 ·exact(aH.move aP H.waits (fun b hb=>aM (mi b hb) _ _) (fun b hb=>aM (H.waits.other hy h5 b hb) _ _)).mono aP (fun b hb=>eT _ _ _ hb)
theorem dx.NX(H:dx w base g c A n k t sq h A1 A2 A3 m1 m2 m3){xs:List Mo.Wt}(hx:ko w base (.slice A4 xs.length m4) xs) :
 dx (av w g 2 [.slice A4 xs.length m4]) base g c A n k t sq {h with waits:=xs} A1 A4 A3 m1 m4 m3:=by
 have hb:=H.blk
 have mi:∀b,gJ w b->b≠g:=fun b hb' he=>by subst he;exact gJ.not hb ah ah hb'
 refine⟨?_,?_,?_,bR (fun b hb' he=>by subst he;exact ed H.done hb ah hb'.symm) _ _ _ _ H.done,H.low⟩
 ·unfold mI at hb;have:=cX [.slice A4 xs.length m4] w 2 _ hb;exact this
 ·exact(aH.move b9 H.chans (fun b hb'=>aM (mi b hb') _ _) (fun b hb'=>aM (H.chans.other hb ah b hb') _ _)).mono b9 (fun b hb'=>eT _ _ _ hb')
 ·exact(aH.move aP hx (fun b hb'=>aM (mi b hb') _ _) (fun b hb'=>aM (aH.other hx hb ah b hb') _ _)).mono aP (fun b hb'=>eT _ _ _ hb')
theorem dx.told{g3:Nat}(H:dx w base g c A n k t sq h A1 A2 g3 m1 m2 m3){L:List Mo.Rs}(hl:L.length=h.done.length)(hT:rU w w' base g3 h.done.length m3 L) :
 dx w' base g c A n k t sq {h with done:=L} A1 A2 g3 m1 m2 m3:=by
 obtain⟨ys,fr,hg⟩:=tz H.done
 have mi:∀b,gJ w b->b≠g3:=fun b hb he=>by subst he;exact gJ.not hg ah ah hb
 have fV:g≠g3:=by exact W6
 have hS:∀b,gJ w b->w'.heap[b]?=w.heap[b]?:=fun b hb=>hT.rest b hb.lt (mi b hb)
 have hS':∀b,gJ w b->gJ w' b:=fun b hb=>by
  have e:=hS b hb
  rcases hb with⟨y,f,h1⟩|⟨y,f,h1⟩
  ·exact .inl ⟨y,f,e.trans h1⟩
  ·exact .inr ⟨y,f,e.trans h1⟩
 refine⟨?_,?_,?_,?_,H.low⟩
 ·rw[hl];exact(hT.rest g H.blk.lt fV).trans H.blk
 ·exact(aH.move b9 H.chans hS (fun b hb=>hT.rest b (H.chans.lt hb).2 (fun he=>by
   subst he
   obtain⟨rows,_,h2,_⟩:=H.chans
   exact ed h2 hg ah hb.symm))).mono b9 hS'
 ·exact(aH.move aP H.waits hS (fun b hb=>hT.rest b (H.waits.lt hb).2 (fun he=>by
   subst he
   obtain⟨rows,_,h2,_⟩:=H.waits
   exact ed h2 hg ah hb.symm))).mono aP hS'
 ·rw[hl];exact hT.own
end
def ac4(base g:Nat)(c:Mo.bH)(A:Option Addr)(n k:Nat)(t sq:Int)(h:Mo.Hl)(A1 A2 A3:Option Addr)(m1 m2 m3:Nat)(w:World)(e:Ending)(w':World):Prop:=e=.returned (.tuple #[])/\dx w' base g c A n k t sq h A1 A2 A3 m1 m2 m3/\Below base w w'/\∀b,b<w.heap.size->some b≠(Value.slice A3 h.done.length m3).ownBlock->w'.heap[b]?=w.heap[b]?
theorem Fa(w:World){t:Int}(H:dx w base g c A n k t sq h A1 A2 A3 m1 m2 m3)(D:Option Addr)(dd:Nat)(ts:List Mo.Told)(hn:j=ts.length)(hl:j<=100)(hr:cN w mg D ts)(Et:∀b,D=some b->ts≠[]->Ty w 229 b.block)(ji:∀x∈ts,x.th<h.done.length)(hne:h.done≠[]) :
 Calls prog 290 #[.pointer g,.slice D j dd] w (ac4 base g c A n k t sq {h with done:=Mo.gj h.done ts} A1 A2 A3 m1 m2 m3 w):=by
 obtain⟨g3,m,hv,h0,h1⟩:=H.done.form hne
 injection hv with e1 e2 e3
 subst e1 e3
 clear e2
 obtain⟨ys,fr,hg⟩:=tz H.done
 have fV:g≠g3:=by exact W6
 have hbl:base<=w.heap.size:=bm H.low (Nat.le_of_lt H.blk.lt)
 have hc:w.cell? ⟨g,3,none⟩=some (.slice g3 h.done.length m3):=af.cell H.blk 3
 have hT:rU w w base g3 h.done.length m3 h.done:=⟨H.done,fun _ _ _=>rfl,(aj w).mono hbl,aS _,h0⟩
 refine(Ny w hc H.blk.lt fV hbl h.done hT D dd ts hn hl hr (fun b hb z8 he=>?_) ji).mono ?_
 ·obtain⟨ys',Dr,tN⟩:=Et b hb z8;rw[he,hg]at tN;injection tN with tN
  injection tN with _ h _
  exact absurd h ah
 ·rintro e w' ⟨rfl,hT'⟩;refine⟨rfl,H.told (kX _ _) hT',hT'.ext,fun b hb hb'=>hT'.rest b hb (fun he=>hb' (by
   subst he;have:h.done.length≠0:=by intro h0;exact hne (List.length_eq_zero_iff.1 h0)
   simp[Value.ownBlock]))⟩
section
variable(w:World) {base g:Nat} {c:Mo.bH} {A:Option Addr} {n k:Nat} {t sq:Int} {h:Mo.Hl} {A1 A2 A3:Option Addr} {m1 m2 m3:Nat}
theorem Fb(H:dx w base g c A n k t sq h A1 A2 A3 m1 m2 m3)(hb:RQ h)(tt nn:Int)(jk:h.done.length=h.waits.length) :
 Calls prog 279 #[.pointer g,tt,nn] w (KS base g c A n k t sq A1 A3 m1 m3 (Mo.gX h t tt nn) w):=by
 have bG:Hid (Below w w (w.alloc ij)):=ak (aj w) _
 have kK:Hid (af (w.alloc ij) w.heap.size 48 #[oZ,oZ,oZ,oZ]):=af.new _ _ _
 have qF:=aa (H.more bG)
 have HZ:=aa (H.more (ak (aj w) (pD 0 0 12 0)))
 have HBZ:=aa ((ak (aj w) (pD 0 0 12 0)).mono (bm H.low (Nat.le_of_lt H.blk.lt)))
 have HFZ:=aa (H.P2 _ (.ext (ak (aj w) (pD 0 0 12 0))))
 have rW:=aa H.P2
 have pH:=aa H.uo
 have eP:base<=w.heap.size:=bm H.low (Nat.le_of_lt H.blk.lt)
 have Jh:g<w.heap.size:=H.blk.lt
 have HR:=aa (fun(j:Nat) (x:Mo.Wt) hx=>fX.row qF.Uw (j:=j) (x:=x) hx)
 by_cases a1:tt<0
 ·have HX:=aa a1;exact aa9
 have i1:0<=tt:=ae
 have g1:¬tt<0:=a1
 by_cases a2:(h.waits.length:Int)<=tt
 ·have HX:=aa a2;exact aa9
 have i2:tt<h.waits.length:=ae
 by_cases a3:tt=t
 ·have HX:=aa a3;subst a3;have d1:(tt==tt)=true:=aF;have GW:Hid (Mo.gX h tt tt nn=(h,Mo.bD 12)):=by unfold Hid Mo.gX;rw[au (by first|exact .inl HX.out|exact .inr (.inl HX.out)|exact .inr (.inr (.inl HX.out))|exact .inr (.inr (.inr (.inl HX.out)))|exact .inr (.inr (.inr (.inr HX.out))))]
  clear H hb HX;go_enter func279,ntmps279;have cQ:=fun i=>af.cell (dx.blk qF) i;have fV:=af.lt (dx.blk qF);unfold mI at cQ;go_wp2_with fail;have eO:=fun i=>af.cell (af.new w 48 #[oZ,oZ,.int .i64 12,oZ]) i;refine bodyPost_ret (v:=.agg #[oZ,oZ,.int .i64 12,oZ]) ?_ rfl ?_
  ·clear cQ;simp[results,results279,go_sem,eO]
  ·rw[GW.out];exact⟨rfl,⟨_,_,HZ⟩,HBZ,HFZ⟩
 have d3:(tt==t)=false:=by simpa using a3
 obtain⟨j,rfl⟩:∃j:Nat,tt=j:=⟨tt.toNat,ae⟩
 have hj:j<h.waits.length:=ae
 obtain⟨x,hx⟩:∃x,h.waits[j]?=some x:=⟨_,cD hj⟩
 have hgd:h.waits.getD (j:Int).toNat Mo.gK=x:=by rw[eR,fF,hx];rfl
 obtain⟨ad,B,d,hA,Co,jD,c0,c1,c2,c3⟩:=HR.out j x hx
 subst hA
 clear Co jD c3 c1
 obtain⟨on,tk,se,cs⟩:=x
 dsimp only at c0 c2
 cases on with
 |false =>
  have HX:Hid ((h.waits.getD (j:Int).toNat Mo.gK).on=false):=by unfold Hid;rw[hgd]
  clear c2 hgd hx;exact aba
 |true =>
  by_cases a5:se=nn
  ·subst a5;have HG:Hid (Mo.gX h t j se=({h with waits:=Mo.gL h.waits j,done:=Mo.gj h.done [⟨j,⟨se,0,11,0⟩⟩]},Mo.dC)):=by
    unfold Hid Mo.gX;rw[ai (by
     rintro(h1|h1|h1|h1|h1)
     ·exact a1 h1
     ·exact a2 h1
     ·exact a3 h1
     ·rw[hgd]at h1;cases h1
     ·rw[hgd]at h1;exact h1 rfl)]
    rw[fF]
   have PO:=aa (fun wx (uD:Below w w wx)=>rT wx (some ad) m2 h.waits rfl (bm hb.waits ah) (H.more uD).Uw (fun x hx=>bm (hb.cases x hx) ah) hx rfl);have hne:h.done≠[]:=by intro he;rw[he]at jk;simp at jk;omega
   have hjd:j<h.done.length:=by rw[jk];exact hj
   have d5:(se !=se)=false:=aF;have iP:=aa (fun b hb=>Nat.ne_of_lt (pH.2.2.2 b hb));clear H hb hgd hx a1 a2 a3;go_enter func279,ntmps279;obtain⟨dh,cW,-⟩:=af.aK kK;have cY:=af.lt kK;obtain⟨cQ,hfg,-⟩:=af.aK (dx.blk qF);have fV:=af.lt (dx.blk qF);unfold mI at cQ;go_wp2_with fail;refine(PO _ bG).mono ?_;rintro e w1 ⟨v,rfl,A4,m4,rfl,hW1,hb1⟩;have bj:=aa (ag bG hb1);have np:=aa (qF.more hb1);have iE:=aa (kK.ag hb1);have lO:(Mo.gL h.waits j).length=h.waits.length:=by unfold Mo.gL;rw[cK]
   rw[<-lO]at hW1;have ng:=aa (hW1.weak (base':=base) (by have:=bG.size;omega));clear hb1 hW1 c0 c2 dh cW cY cQ hfg fV;obtain⟨dh,cW,-⟩:=af.aK iE;have cY:=af.lt iE;obtain⟨cQ,hfg,-⟩:=af.aK (dx.blk np);have fV:=af.lt (dx.blk np);unfold mI at cQ;go_wp2_with fail;have Ai:=aa (np.NX ng);have gp:=aa (aW iE (b:=w.heap.size) (g:=g) ae [.slice A4 (Mo.gL h.waits j).length m4] 2);have bq:Hid (Below base w (av w1 g 2 [.slice A4 (Mo.gL h.waits j).length m4])):=aw np.low _ _ _ (bj.mono eP);rw[lO]at Ai gp bq;change Calls _ _ _ ((av w1 g 2 [.slice A4 h.waits.length m4]).alloc (.cells #[j,se,oZ,.int .i64 11,oZ] 229)) _;have p3:Hid (ku w g (.slice A1 h.chans.length m1) (.slice A3 h.done.length m3) (av w1 g 2 [.slice A4 h.waits.length m4])):=(ku.ext bj).NA _ _;clear dh cW cY cQ hfg fV bj np iE ng;have hsz:(av w1 g 2 [.slice A4 h.waits.length m4]).heap.size=w1.heap.size:=bw _ _ _;rw[<-hsz];generalize av w1 g 2 [.slice A4 h.waits.length m4]=w2 at *;clear hsz;have hT3:aI (w2.alloc (.cells #[j,se,oZ,.int .i64 11,oZ] 229)) w2.heap.size 229 5 mg (.slice w2.heap.size 1 1) [⟨j,⟨se,0,11,0⟩⟩]:=World.ownsRow_lit w2 #[j,se,oZ,.int .i64 11,oZ] 1 (aS _) ah (size:=5) rfl;have xF:=aa (Ai.more (ak (aj w2) (.cells #[j,se,oZ,.int .i64 11,oZ] 229)));have jc:=aa (gp.alloc (.cells #[j,se,oZ,.int .i64 11,oZ] 229));have bZ:=aa (EX bq (bm eP (Nat.le_of_lt gp.lt)) (.cells #[j,se,oZ,.int .i64 11,oZ] 229));refine(Fa (j:=1) _ xF w2.heap.size 1 [⟨j,⟨se,0,11,0⟩⟩] rfl aF hT3.xO.2 (fun b hb _=>by injection hb with hb;subst hb;exact tz hT3) (fun x hx=>by simp at hx;subst hx;exact hjd) hne).mono ?_;rintro e w3 ⟨rfl,UA,IG,od⟩;have NY:=aa UA;have uG:=aa ((p3.more (Nat.le_of_lt gp.lt) (ak (aj w2) _)).tell (Nat.le_of_lt jc.lt) od (RR _ _ _ _ _));have fJ:=aa (bZ.trans IG);have kV:Hid (∀b,(Value.slice A3 (Mo.gj h.done [⟨j,⟨se,0,11,0⟩⟩]).length m3).ownBlock=some b->b≠w.heap.size):=by unfold Hid;rw[kX];exact iP.out
   have lQ:Hid (af w3 w.heap.size 48 #[oZ,oZ,oZ,oZ]):=(od w.heap.size jc.lt (fun he=>kV _ he.symm rfl)).trans jc;clear UA IG od xF jc bZ hT3 Ai gp bq;obtain⟨dh,cW,-⟩:=af.aK lQ;have cY:=af.lt lQ;obtain⟨cQ,hfg,-⟩:=af.aK (dx.blk NY);have fV:=af.lt (dx.blk NY);unfold mI at cQ;clear hfg;go_wp2_with fail;have dZ:=aR (vs:=[oZ,oZ,oZ,oZ]) lQ rfl;have uS:=dx.JJ NY lQ ah ah ah ah ah kV 0 [oZ,oZ,oZ,oZ];have fy:Below base w (av w3 w.heap.size 0 [oZ,oZ,oZ,oZ]):=aw eP _ _ _ fJ;change bodyPost _ _ _ _ _ (av w3 w.heap.size 0 [oZ,oZ,oZ,oZ]);have uT:=rW.out _ (uG.new (q:=w.heap.size) ae 0 [oZ,oZ,oZ,oZ]);clear dh cW cY cQ fV;generalize av w3 w.heap.size 0 [oZ,oZ,oZ,oZ]=wz at *;have eO:=fun i=>af.cell dZ i;refine bodyPost_ret (v:=.agg #[oZ,oZ,oZ,oZ]) ?_ rfl ?_
   ·simp[results,results279,go_sem,eO]
   ·exact Uz
  ·have HX:Hid ((h.waits.getD (j:Int).toNat Mo.gK).seq≠nn):=by unfold Hid;rw[hgd];exact a5
   have d5:(se !=nn)=true:=by simpa using a5
   clear hgd hx;exact aba
end
structure JK (G:Mo.vh) (xs:List Mo.Wt):Prop where
 len:G.l.length=xs.length
 told:G.told.length<=xs.length
 th:∀x∈G.told,x.th<xs.length
theorem Sc(x:Mo.Ch)(hd:Int)(xs:List Mo.Wt):JK (Mo.q7 x hd xs) xs:=by
 unfold Mo.q7;split
 ·exact⟨rfl,aY _,fun y hy=>by cases hy⟩
 ·refine⟨GZ,?_,?_⟩
  ·have h1:(Mo.qh xs hd).length<=xs.length:=by
    unfold Mo.qh;rw[jb];exact bm (List.length_filter_le _ _) aF
   simpa using h1
  ·intro y hy;obtain⟨t,ht,rfl⟩:=List.mem_map.1 hy;obtain⟨x,hx,_⟩:=GY ht;exact cE hx
theorem NZ(xs:List Mo.Wt)(t:Nat):(Mo.gL xs t).length=xs.length:=by unfold Mo.gL;rw[cK]
theorem N0{xs:List Mo.Wt}{dir:Int}{t:Nat}(h:Mo.dX xs dir hd=some (t,i)):t<xs.length:=by obtain⟨x,hx,_⟩:=nV h;exact cE hx
theorem Sd(x:Mo.Ch)(hd:Int)(xs:List Mo.Wt)(va:Int):JK (Mo.nY x hd xs va) xs:=by
 unfold Mo.nY;split
 ·exact UB
 ·exact⟨rfl,aY _,fun y hy=>by cases hy⟩
theorem Sg(x:Mo.Ch)(hd:Int)(xs:List Mo.Wt):JK (Mo.nZ x hd xs) xs:=by
 unfold Mo.nZ;split
 ·exact⟨rfl,aY _,fun y hy=>by cases hy⟩
 ·exact UB
theorem abb(x:Mo.Ch)(hd:Int)(xs:List Mo.Wt)(dir va:Int):JK (Mo.xK x hd xs dir va) xs:=by
 unfold Mo.xK;repeat' split
 all_goals first|exact Sd _ _ _ _|exact Sg _ _ _|exact⟨rfl,aY _,fun y hy=>by cases hy⟩
section
variable{w:World} {base g:Nat} {c:Mo.bH} {A:Option Addr} {n k:Nat} {t sq:Int} {h:Mo.Hl} {A1 A2 A3:Option Addr} {m1 m2 m3:Nat}
theorem dx.got(H:dx w base g c A n k t sq h g1 A2 A3 m1 m2 m3)(hi:i<h.chans.length){G:Mo.vh}(hP:kz G n1 base' w B d A4 m4 D dd)(nS:G.l.length=n1)(hb:base<=base') :
 dx (av (av w g1 (i*5) [G.c.gen,G.c.cap,G.c.used,G.c.closed,.slice B G.c.buf.length d]) g 2 [.slice A4 n1 m4]) base g c A n k t sq {h with chans:=h.chans.set i G.c,waits:=G.l} g1 A4 A3 m1 m4 m3 /\
 cN (av (av w g1 (i*5) [G.c.gen,G.c.cap,G.c.used,G.c.closed,.slice B G.c.buf.length d]) g 2 [.slice A4 n1 m4]) mg D G.told /\
 (∀b,D=some b->G.told≠[]->Ty (av (av w g1 (i*5) [G.c.gen,G.c.cap,G.c.used,G.c.closed,.slice B G.c.buf.length d]) g 2 [.slice A4 n1 m4]) 229 b.block):=by
 subst nS
 obtain⟨ys,hg,hgb⟩:=H.chans.ty
 have mi:¬gJ w g1:=gJ.not hg ah ah
 have H1:=H.Nz hi G.c B d hP.cap hP.pU hP.PT
 have hW:ko (av w g1 (i*5) [G.c.gen,G.c.cap,G.c.used,G.c.closed,.slice B G.c.buf.length d]) base (.slice A4 G.l.length m4) G.l :=
  (aH.move aP (hP.own.weak hb) (fun b hb=>aM (fun he=>by subst he;exact mi hb) _ _) (fun b hb=>aM (fun he=>by
    subst he
    obtain⟨rows,_,h2,_⟩:=hP.own
    exact ed h2 hg ah hb.symm) _ _)).mono aP (fun b hb=>eT _ _ _ hb)
 have T:Two w (av (av w g1 (i*5) [G.c.gen,G.c.cap,G.c.used,G.c.closed,.slice B G.c.buf.length d]) g 2 [.slice A4 G.l.length m4]) g1 g 83 287:=⟨⟨_,hg⟩,⟨_,H.blk⟩,fun b h1 h2=>(aM h2 _ _).trans (aM h1 _ _),by rw[bw,bw]⟩
 refine⟨H1.NX hW,?_,fun b h1 h2=>(T.ty (hP.Nr b h1 h2) ah ah).1⟩
 exact T.rd hP.WS (fun b hb hne=>hP.Nr b hb (fun he=>hne (by rw[he];rfl))) ah ah
end
theorem kz.one{g:Mo.vh}{c:Nat}(h:kz g n base w B d A c D dd)(T:Two w w' q q 83 83):kz g n base w' B d A c D dd :=
 ⟨T.rd h.pU (fun b hb hne=>h.PT b hb (fun he=>hne (by rw[he];rfl))) ah ah,fun b hb hne=>(T.ty (h.PT b hb hne) ah ah).1,h.cap,T.wP aP h.own ah ah ah ah,
  T.rd h.WS (fun b hb hne=>h.Nr b hb (fun he=>hne (by rw[he];rfl))) ah ah,fun b hb hne=>(T.ty (h.Nr b hb hne) ah ah).1,h.Jt⟩
theorem dx.Cx{t:Int}(H:dx w base g c A n k t sq h (some ⟨g1,0,none⟩) A2 A3 m1 m2 m3):g≠g1:=fun e=>by
 obtain⟨ys,hg,_⟩:=H.chans.ty
 have:=H.blk
 unfold af at this
 subst e
 rw[hg]at this
 injection this with this
 injection this with _ this
 exact absurd this ah
def Ext(w w':World):Prop:=Below w.heap.size w w'
section
variable{w a b:World}
theorem Ext.out(h:Ext a b):Below a.heap.size a b:=h
theorem Ext.start(w:World):Ext w w.drew:=(aj w).drew
theorem Ext.fZ(w:World)(o:Obj):Ext w (w.alloc o).drew:=(ak (aj w) o).drew
theorem Ext.Aj(w:World)(o o':Obj):Ext w ((w.alloc o).alloc o').drew:=(ak (ak (aj w) o) o').drew
theorem Ext.alloc(h:Ext a b)(o:Obj):Ext a (b.alloc o):=ak h o
theorem Ext.to(h:Ext a b)(k:Below b.heap.size b w):Ext a w:=ag h k
theorem Ext.set(h:Ext a b){p:Addr}(hp:a.heap.size<=p.block):Ext a (b.setCell p u):=h.setCell hp u
theorem Ext.cell(h:Ext a b){p:Addr}(hc:a.cell? p=some u):b.cell? p=some u:=by rw[<-hc];exact Below.cell h (bc hc)
end
def Xo(w:World)(base g g1:Nat)(c:Mo.bH)(A:Option Addr)(n k:Nat)(t sq:Int)(h:Mo.Hl)(A2 A3:Option Addr)(m1 m2 m3:Nat)(G:Mo.vh)(wx:World)(p:Nat)(B2:Option Addr)(d2:Nat)(A4:Option Addr)(m4:Nat)(D:Option Addr)(dd:Nat):Prop:=af wx p 83 #[.int .i64 G.c.gen,.int .i64 G.c.cap,.bool G.c.used,.bool G.c.closed,.slice B2 G.c.buf.length d2]/\dx wx base g c A n k t sq h (some ⟨g1,0,none⟩) A2 A3 m1 m2 m3/\af wx w.heap.size 48 #[.int .i64 0,.int .i64 0,.int .i64 0,.int .i64 0]/\kz G h.waits.length w.heap.size wx B2 d2 A4 m4 D dd/\Below w.heap.size w wx/\w.heap.size<p
def abc(w:World)(base g g1:Nat)(c:Mo.bH)(A:Option Addr)(n k:Nat)(t sq:Int)(h:Mo.Hl)(A2 A3:Option Addr)(m1 m2 m3:Nat)(G:Mo.vh)(s7 s8 s9 Xq:Value)(wx:World):Prop :=∃p B2 d2 A4 m4 D dd,s7=.pointer (some ⟨p,0,none⟩)/\s8=.slice A4 h.waits.length m4/\s9=.int .i64 G.r.code/\Xq=.slice D G.told.length dd/\Xo w base g g1 c A n k t sq h A2 A3 m1 m2 m3 G wx p B2 d2 A4 m4 D dd
section
variable(w:World) {base g:Nat} {c:Mo.bH} {A:Option Addr} {n k:Nat} {t sq:Int} {h:Mo.Hl} {A1 A2 A3:Option Addr} {m1 m2 m3:Nat}
theorem JL(H:dx w base g c A n k t sq h A1 A2 A3 m1 m2 m3)(hb:RQ h)(hd:Int)(jk:h.done.length=h.waits.length)(hne:h.done≠[]) :
 Calls prog 277 #[.pointer (some ⟨g,0,none⟩),.int .i64 hd] w (KS base g c A n k t sq A1 A3 m1 m3 (Mo.q8 h hd) w):=by
 have bG:Hid (Below w.heap.size w (w.alloc ij)):=ak (aj w) _
 have kK:Hid (af (w.alloc ij) w.heap.size 48 #[.int .i64 0,.int .i64 0,.int .i64 0,.int .i64 0]):=af.new _ _ _
 have qF:=aa (H.more bG)
 have rW:=aa H.P2
 have pH:=aa H.uo
 have eP:base<=w.heap.size:=bm H.low (Nat.le_of_lt H.blk.lt)
 obtain⟨cQ,-,fV⟩:=af.aK qF.blk
 unfold mI at cQ
 have Jh:g<w.heap.size:=H.blk.lt
 have nh:=aa (fun wx (uD:Below w.heap.size w wx)=>nj wx h.ay A1 m1 h.chans rfl ((H.more uD).Dx) (.slice A2 h.waits.length m2) (.slice A3 h.done.length m3) h.waits h.done hd)
 have pd:=aa jk;have N7:=aa hne
 clear jk hne
 have iP:=aa (fun b hb=>Nat.ne_of_lt (pH.2.2.2 b hb))
 obtain⟨r,hr⟩:=aD (Mo.cC h hd)
 have e0:Mo.cC ⟨h.ay,h.chans,h.waits,h.done⟩ hd=r:=hr.symm
 rw[e0]at nh
 have xx:=aa hr
 clear hr e0
 cases r with
 |none =>
  have HG:Hid (Mo.q8 h hd=(h,Mo.bD 8)):=by unfold Hid Mo.q8;rw[<-xx.out]
  clear H hb;go_enter func277,ntmps277;go_wp2_with fail;refine(nh _ bG).mono ?_;rintro e w1 ⟨rfl,hb1⟩;have bj:=aa ((bG.mono eP).trans (hb1.mono (by simp;omega)));have np:=aa (qF.more hb1);have iE:=aa (kK.ag hb1);have uf:=aa (ag bG hb1);clear hb1 cQ fV;obtain⟨dh,cW,-⟩:=af.aK iE;have cY:=af.lt iE;obtain⟨cQ,hfg,-⟩:=af.aK (dx.blk np);have fV:=af.lt (dx.blk np);unfold mI at cQ;clear hfg;go_wp2_with fail;have dZ:=aR (vs:=[.int .i64 0,.int .i64 0,.int .i64 8,.int .i64 0]) iE rfl;have uS:=dx.far np pH (aS _) iE ah ah 0 [.int .i64 0,.int .i64 0,.int .i64 8,.int .i64 0];have fy:Below base w (av w1 w.heap.size 0 [.int .i64 0,.int .i64 0,.int .i64 8,.int .i64 0]):=aw eP _ _ _ bj;change bodyPost _ _ _ _ _ (av w1 w.heap.size 0 [.int .i64 0,.int .i64 0,.int .i64 8,.int .i64 0]);have uT:=rW.out _ ((ku.ext uf).new (q:=w.heap.size) ae 0 [.int .i64 0,.int .i64 0,.int .i64 8,.int .i64 0]);clear dh cW cY cQ fV;generalize av w1 w.heap.size 0 [.int .i64 0,.int .i64 0,.int .i64 8,.int .i64 0]=wz at *;have eO:=fun i=>af.cell dZ i;refine bodyPost_ret (v:=.agg #[.int .i64 0,.int .i64 0,.int .i64 8,.int .i64 0]) ?_ rfl ?_
  ·simp[results,results277,go_sem,eO]
  ·rw[HG.out];exact⟨rfl,⟨_,_,uS⟩,fy,uT⟩
 |some i =>
  obtain⟨x,hx,hu,hrst⟩:=nk xx.symm;clear hrst;have LS:x.buf.length<=90000:=hb.buf x (bP hx);have N8:=aa (fun wx (uD:Below w.heap.size w wx) (B:Option Addr) (d:Nat) (jD:bC wx .i64 B x.buf)=>Nv wx x B x.buf.length d rfl LS jD A2 m2 h.waits rfl hb.waits ((H.more uD).Uw) (fun y hy=>hb.cases y hy) hd hu);have hch:Mo.gD h i=x:=by unfold Mo.gD;rw[eR,hx];rfl
  obtain⟨G,hG⟩:=aD (Mo.q7 x hd h.waits);have HG:Hid (Mo.q8 h hd=({h with chans:=h.chans.set i G.c,waits:=G.l,done:=Mo.gj h.done G.told},Mo.bD G.r.code)):=by unfold Hid Mo.q8;rw[<-xx.out];dsimp only;rw[hch,hG]
  have Xr:Hid (JK G h.waits):=by rw[hG];exact Sc _ _ _
  rw[<-hG]at N8;have HX:=aa hx;have vE:i<h.chans.length:=cE hx;have P4:h.waits.length<=19:=hb.waits;clear H hb hch hG;go_enter func277,ntmps277;go_wp2_with fail;refine(nh _ bG).mono ?_;rintro e w1 ⟨rfl,hb1⟩;have bj:=aa (ag bG hb1);have np:=aa (qF.more hb1);have iE:=aa (kK.ag hb1);obtain⟨g1,mm,hv,hg0,hg1'⟩:=np.chans.form (by have:=bP HX;intro he;rw[he]at this;cases this);injection hv with e1 e2 e3
  subst e1 e3;clear e2;obtain⟨ad,B,d,hA,Co,jD,c0,c1,c2,c3,c4⟩:=oD.row np.Dx hx;have lB:=aa jD;injection hA with hA
  subst hA;rw[nC,Nat.zero_add]at c0 c1 c2 c3 c4;dsimp only at c1 c2 c3 c4;have W7:g1<w.heap.size:=pH.2.1 g1 rfl;have HG0:=aa hg0;clear hg0;rw[hu]at c2 N8;obtain⟨bl,hbl⟩:=aD x.buf.length;rw[<-hbl]at c4 N8;have i1:(0:Int)<=(i:Int):=ae;have i2:(i:Int)<(h.chans.length:Int):=ae;clear hb1 cQ fV hx hu hbl Co jD LS;obtain⟨cQ,-,fV⟩:=af.aK np.blk;unfold mI at cQ;go_upto_region 4 with fail
  go_cut[7,8,9,10] (fun s7 s8 s9 Xq wx=>abc w base g g1 c A n k t sq h A2 A3 m1 m2 m3 G s7 s8 s9 Xq wx);case first =>
   have ya:=aa (fun wx (hx:Ext w1 wx)=>np.out.more hx.out);have Dy:=aa (fun wx (hx:Ext w1 wx)=>iE.ag hx.out);have Cz:=aa (fun wx (hx:Ext w1 wx)=>N8 wx (ag bj hx.out) B d (lB.below hx.out));have cQ:=fun wx (hx:Ext w1 wx) i=>af.cell (dx.blk (ya wx hx)) i;unfold mI at cQ;have d0:=fun wx (hx:Ext w1 wx)=>hx.cell c0;have d1:=fun wx (hx:Ext w1 wx)=>hx.cell c1;have d2:=fun wx (hx:Ext w1 wx)=>hx.cell c2;have d3:=fun wx (hx:Ext w1 wx)=>hx.cell c3;have d4:=fun wx (hx:Ext w1 wx)=>hx.cell c4;have Ca:w.heap.size<w1.heap.size:=iE.lt;have HCa:Hid (af (w1.alloc pS).drew w1.heap.size 83 #[.int .i64 0,.int .i64 0,.bool false,.bool false,.slice none 0 0]):=af.new w1 83 #[.int .i64 0,.int .i64 0,.bool false,.bool false,.slice none 0 0];clear c0 c1 c2 c3 c4;go_region_held3(Ext w1) (with_reducible(first|assumption|exact Ext.start _|exact Ext.fZ _ _|exact Ext.alloc (by assumption) _|((repeat(refine Ext.set ?_ (by simp;try omega)));first|assumption|exact Ext.alloc (by assumption) _))) (((with_reducible refine(Cz.out _ (by assumption)).mono ?_);rintro e w2 ⟨B2,e2,A4,m4,D,dd,rfl,hP,hb2⟩;have uH:=Ext.to (by assumption) hb2;have HP:=aa hP;(try(have iq:=aa (HCa.out.ag hb2);have hcc:=fun i=>af.cell iq.out i;have hfc:=fun i=>af.free iq.out i;have gH:=af.lt iq.out));clear hP))
   ·go_wp2_with fail;go_meet;exact⟨_,B2,e2,A4,m4,D,dd,rfl,rfl,rfl,rfl,af.new _ _ _,ya.out _ (by assumption),Dy.out _ (by assumption),(HP.out.weak (base':=w.heap.size) (Nat.le_of_lt Ca)).more (ak (aj _) _),ag bj.out (Ext.out (by assumption)),by have:=hb2.size;simp at this;omega⟩
   ·go_wp2_with fail;go_meet;have hT:=Two.one (v1:=[.int .i64 G.c.gen,.int .i64 G.c.cap,.bool G.c.used,.bool G.c.closed,.slice B2 G.c.buf.length e2]) iq rfl;exact⟨_,B2,e2,A4,m4,D,dd,rfl,rfl,rfl,rfl,hT.2,ya.out _ (by assumption),Dy.out _ (by assumption),(HP.out.weak (base':=w.heap.size) (by simp;omega)).one hT.1,ag bj.out (Ext.out (by assumption)),Ca⟩
  case rest =>
   obtain⟨p,B2,d2,A4,m4,D,dd,rfl,rfl,rfl,rfl,hC,hV,hQ,hP,hB,hp⟩:=hcut;have HC:=aa hC;have HV:=aa hV;have HQ:=aa hQ;have HP:=aa hP;have HB:=aa (hB.mono eP);have uf:=aa hB;obtain⟨ad,B9,d9,hA,_,_,c0,c1,c2,c3,c4⟩:=oD.row hV.Dx HX;injection hA with hA
   subst hA;have f0:=HV.chans.ck (i*5);have f1:=HV.chans.ck (i*5+1);have f2:=HV.chans.ck (i*5+2);have f3:=HV.chans.ck (i*5+3);have f4:=HV.chans.ck (i*5+4);rw[nC,Nat.zero_add]at c0 c1 c2 c3 c4;dsimp only at c1 c2 c3 c4;have hne:g≠g1:=hV.Cx;have z8:g1≠g:=fun e=>hne e.symm;clear hC hV hQ hP hB np iE bj qF nh N8 lB cQ fV bG kK;clear c0 c1 c2 c3 c4;obtain⟨ad,B9,d9,hA,_,_,c0,c1,c2,c3,c4⟩:=oD.row HV.Dx HX;injection hA with hA
   subst hA;rw[nC,Nat.zero_add]at c0 c1 c2 c3 c4;dsimp only at c1 c2 c3 c4;have hcc:=fun i=>af.cell HC i;obtain⟨cQ,hfg,-⟩:=af.aK (dx.blk HV);have fV:=af.lt (dx.blk HV);unfold mI at cQ;go_wp2_with fail;go_region;have hG:=HV.got vE HP Xr.len eP;have TN:=aW (aW HQ (b:=w.heap.size) (g:=g1) ae [.int .i64 G.c.gen,.int .i64 G.c.cap,.bool G.c.used,.bool G.c.closed,.slice B2 G.c.buf.length d2] (i*5)) (g:=g) ae [.slice A4 h.waits.length m4] 2;have p9:Below base w (av (av wc g1 (i*5) [.int .i64 G.c.gen,.int .i64 G.c.cap,.bool G.c.used,.bool G.c.closed,.slice B2 G.c.buf.length d2]) g 2 [.slice A4 h.waits.length m4]):=aw HV.low _ _ _ (aw HG0 _ _ _ HB);have oG:Hid (ku w g (.slice (some ⟨g1,0,none⟩) h.chans.length m1) (.slice A3 h.done.length m3) (av (av wc g1 (i*5) [.int .i64 G.c.gen,.int .i64 G.c.cap,.bool G.c.used,.bool G.c.closed,.slice B2 G.c.buf.length d2]) g 2 [.slice A4 h.waits.length m4]).drew):=(((ku.ext uf).RS (q:=g1) rfl (i*5) [.int .i64 G.c.gen,.int .i64 G.c.cap,.bool G.c.used,.bool G.c.closed,.slice B2 G.c.buf.length d2]).NA _ _).drew;have wX:=(aj (av (av wc g1 (i*5) [.int .i64 G.c.gen,.int .i64 G.c.cap,.bool G.c.used,.bool G.c.closed,.slice B2 G.c.buf.length d2]) g 2 [.slice A4 h.waits.length m4])).drew;have wI:=aa (hG.1.more wX);have jd:=aa (hG.2.1.below wX);have Ba:=aa (fun b h1 h2=>(hG.2.2 b h1 h2).below wX);have pX:=aa (TN.ag wX);have iW:=aa p9.drew;clear hG TN p9 wX c0 c1 c2 c3 c4 f0 f1 f2 f3 f4 cQ hfg hcc fV HC HV HQ HP HB;change Exit.then _ _ _ _ (av (av wc g1 (i*5) [.int .i64 G.c.gen,.int .i64 G.c.cap,.bool G.c.used,.bool G.c.closed,.slice B2 G.c.buf.length d2]) g 2 [.slice A4 h.waits.length m4]).drew;generalize(av (av wc g1 (i*5) [.int .i64 G.c.gen,.int .i64 G.c.cap,.bool G.c.used,.bool G.c.closed,.slice B2 G.c.buf.length d2]) g 2 [.slice A4 h.waits.length m4]).drew=w5 at *;go_wp2_with fail;refine(Fa _ wI D dd G.told rfl (bm Xr.told (bm P4 ah)) jd Ba (fun x hx=>by rw[pd.out];exact Xr.th x hx) N7).mono ?_;rintro e w3 ⟨rfl,UA,IG,od⟩;have NY:=aa UA;have uG:=aa (oG.tell (Nat.le_of_lt pX.lt) od (RR _ _ _ _ _));have fJ:=aa (iW.trans IG);have kV:Hid (∀b,(Value.slice A3 (Mo.gj h.done G.told).length m3).ownBlock=some b->b≠w.heap.size):=by unfold Hid;rw[kX];exact iP.out
   have lQ:Hid (af w3 w.heap.size 48 #[.int .i64 0,.int .i64 0,.int .i64 0,.int .i64 0]):=(od w.heap.size pX.lt (fun he=>kV _ he.symm rfl)).trans pX;clear UA IG od wI pX iW jd Ba;obtain⟨dh,cW,-⟩:=af.aK lQ;have cY:=af.lt lQ;obtain⟨cQ,hfg,-⟩:=af.aK (dx.blk NY);have fV:=af.lt (dx.blk NY);unfold mI at cQ;clear hfg;go_wp2_with fail;have dZ:=aR (vs:=[.int .i64 0,.int .i64 0,.int .i64 G.r.code,.int .i64 0]) lQ rfl;have uS:=dx.JJ NY lQ ah ah ah ah ah kV 0 [.int .i64 0,.int .i64 0,.int .i64 G.r.code,.int .i64 0];have fy:Below base w (av w3 w.heap.size 0 [.int .i64 0,.int .i64 0,.int .i64 G.r.code,.int .i64 0]):=aw eP _ _ _ fJ;change bodyPost _ _ _ _ _ (av w3 w.heap.size 0 [.int .i64 0,.int .i64 0,.int .i64 G.r.code,.int .i64 0]);have uT:=rW.out _ (uG.new (q:=w.heap.size) ae 0 [.int .i64 0,.int .i64 0,.int .i64 G.r.code,.int .i64 0]);clear dh cW cY cQ fV;generalize av w3 w.heap.size 0 [.int .i64 0,.int .i64 0,.int .i64 G.r.code,.int .i64 0]=wz at *;have eO:=fun i=>af.cell dZ i;refine bodyPost_ret (v:=.agg #[.int .i64 0,.int .i64 0,.int .i64 G.r.code,.int .i64 0]) ?_ rfl ?_
   ·simp[results,results277,go_sem,eO]
   ·rw[HG.out];exact⟨rfl,⟨_,_,uS⟩,fy,uT⟩
end
theorem kz.ones{g:Mo.vh}{c:Nat}(h:kz g n base w B d A c D dd)(T:Two w w' q q 48 48):kz g n base w' B d A c D dd :=
 ⟨T.rd h.pU (fun b hb hne=>h.PT b hb (fun he=>hne (by rw[he];rfl))) ah ah,fun b hb hne=>(T.ty (h.PT b hb hne) ah ah).1,h.cap,T.wP aP h.own ah ah ah ah,
  T.rd h.WS (fun b hb hne=>h.Nr b hb (fun he=>hne (by rw[he];rfl))) ah ah,fun b hb hne=>(T.ty (h.Nr b hb hne) ah ah).1,h.Jt⟩
section
variable(w:World)
theorem Xs(x:Mo.Ch)(B:Option Addr)(bl d:Nat)(hbl:bl=x.buf.length)(PN:bl<=90000)(hb0:bC w .i64 B x.buf)(A:Option Addr)(c:Nat)(xs:List Mo.Wt)(hn:n=xs.length)(hl:n<=90000)(hr:fX w A xs)(hc:∀x∈xs,x.cases.length<=90000)(hd:Int)(dir va:Int)(Ak:dir=1\/dir=2)(hu:x.used=true)(jD:Mo.dH x hd xs dir=true) :
 Calls prog 294 #[.agg #[.int .i64 x.gen,.int .i64 x.cap,.bool x.used,.bool x.closed,.slice B bl d],.int .i64 hd,.slice A n c,.int .i64 dir,.int .i64 va] w (pg (Mo.xK x hd xs dir va) n w):=by
 rcases Ak with rfl|rfl
 ·exact RJ w x B bl d hbl PN hb0 A c xs hn hl hr hc hd va hu jD
 ·exact RM w x B bl d hbl PN hb0 A c xs hn hl hr hc hd va hu jD
end
def abd(w:World)(base g g1:Nat)(c:Mo.bH)(A:Option Addr)(n k:Nat)(t sq:Int)(h:Mo.Hl)(A2 A3:Option Addr)(m1 m2 m3:Nat)(G:Mo.vh)(s9 Xq s11 s12:Value)(wx:World):Prop :=
 ∃p q B2 d2 A4 m4 D dd,s9=.pointer (some ⟨p,0,none⟩)/\Xq=.slice A4 h.waits.length m4/\s11=.pointer (some ⟨q,0,none⟩)/\s12=.slice D G.told.length dd /\
  af wx p 83 #[.int .i64 G.c.gen,.int .i64 G.c.cap,.bool G.c.used,.bool G.c.closed,.slice B2 G.c.buf.length d2]/\af wx q 48 #[.int .i64 G.r.seq,.int .i64 G.r.cs,.int .i64 G.r.code,.int .i64 G.r.value]/\dx wx base g c A n k t sq h (some ⟨g1,0,none⟩) A2 A3 m1 m2 m3/\af wx (w.heap.size+1) 48 #[.int .i64 0,.int .i64 0,.int .i64 0,.int .i64 0]/\kz G h.waits.length w.heap.size wx B2 d2 A4 m4 D dd/\Below w.heap.size w wx/\w.heap.size+1<p/\w.heap.size+1<q/\(p<q\/q<p)
section
variable(w:World) {base g:Nat} {c:Mo.bH} {A:Option Addr} {n k:Nat} {t sq:Int} {h:Mo.Hl} {A1 A2 A3:Option Addr} {m1 m2 m3:Nat}
theorem Oa(H:dx w base g c A n k t sq h A1 A2 A3 m1 m2 m3)(hb:RQ h)(wh:Nat)(kk:Mo.Cs)(Ak:kk.1=1\/kk.1=2)(jk:h.done.length=h.waits.length)(hne:h.done≠[])(QS:Mo.cC h kk.2.1=some i)(jD:Mo.dH (Mo.gD h i) kk.2.1 h.waits kk.1=true) :
 Calls prog 287 #[.pointer (some ⟨g,0,none⟩),.int .i64 wh,.agg #[.int .i64 kk.1,.int .i64 kk.2.1,.int .i64 kk.2.2]] w (KS base g c A n k t sq A1 A3 m1 m3 (Mo.Bk h wh kk) w):=by
 have bG:Hid (Below w.heap.size w ((w.alloc (.cells #[.int .i64 kk.1,.int .i64 kk.2.1,.int .i64 kk.2.2] 110)).alloc ij)):=ak (ak (aj w) _) _
 have gV:Hid (af ((w.alloc (.cells #[.int .i64 kk.1,.int .i64 kk.2.1,.int .i64 kk.2.2] 110)).alloc ij) w.heap.size 110 #[.int .i64 kk.1,.int .i64 kk.2.1,.int .i64 kk.2.2]):=(af.new _ _ _).alloc _
 have kK:Hid (af ((w.alloc (.cells #[.int .i64 kk.1,.int .i64 kk.2.1,.int .i64 kk.2.2] 110)).alloc ij) (w.heap.size+1) 48 #[.int .i64 0,.int .i64 0,.int .i64 0,.int .i64 0]):=(af.newAt _ _ _ aF)
 have uI:=aa (H.more bG)
 have rW:=aa H.P2
 have pH:=aa H.uo
 have eP:base<=w.heap.size:=bm H.low (Nat.le_of_lt H.blk.lt)
 have Jh:g<w.heap.size:=H.blk.lt
 have nh:=aa (fun wx (uD:Below w.heap.size w wx)=>nj wx h.ay A1 m1 h.chans rfl ((H.more uD).Dx) (.slice A2 h.waits.length m2) (.slice A3 h.done.length m3) h.waits h.done kk.2.1)
 have pd:=aa jk;have N7:=aa hne
 clear jk hne
 have iP:=aa (fun b hb=>Nat.ne_of_lt (pH.2.2.2 b hb))
 have e0:Mo.cC ⟨h.ay,h.chans,h.waits,h.done⟩ kk.2.1=some i:=QS
 rw[e0]at nh
 clear e0
 obtain⟨x,hx,hu,hrst⟩:=nk QS
 clear hrst
 have LS:x.buf.length<=90000:=hb.buf x (bP hx)
 have hch:Mo.gD h i=x:=by unfold Mo.gD;rw[eR,hx];rfl
 rw[hch]at jD
 have N8:=aa (fun wx (uD:Below w.heap.size w wx) (B:Option Addr) (d:Nat) (Dp:bC wx .i64 B x.buf)=>(Xs wx x B x.buf.length d rfl LS Dp A2 m2 h.waits rfl (bm hb.waits ah) ((H.more uD).Uw) (fun y hy=>hb.cases y hy) kk.2.1 kk.1 kk.2.2 Ak hu jD).mono (fun _ _ hq=>pg.p hq))
 obtain⟨G,hG⟩:=aD (Mo.xK x kk.2.1 h.waits kk.1 kk.2.2)
 have HG:Hid (Mo.Bk h wh kk=({h with chans:=h.chans.set i G.c,waits:=G.l,done:=Mo.gj h.done G.told},{G.r with cs:=wh})):=by unfold Hid Mo.Bk;rw[QS];dsimp only[Option.getD_some];rw[hch,hG]
 have Xr:Hid (JK G h.waits):=by rw[hG];exact abb _ _ _ _ _
 rw[<-hG]at N8
 have HX:=aa hx
 have vE:i<h.chans.length:=cE hx
 have P4:h.waits.length<=19:=hb.waits
 have lR:((w.alloc (.cells #[.int .i64 kk.1,.int .i64 kk.2.1,.int .i64 kk.2.2] 110)).alloc ij).heap.size=w.heap.size+1+1:=aF
 obtain⟨w0,hw0⟩:=aD ((w.alloc (.cells #[.int .i64 kk.1,.int .i64 kk.2.1,.int .i64 kk.2.2] 110)).alloc ij)
 clear H hb hch hG QS jD Ak
 go_enter func287,ntmps287
 go_wp2_with fail
 rw[<-hw0]at bG gV kK uI lR ⊢
 have abe:=aa (fun wx (hx:Ext w0 wx)=>nh wx (ag bG hx.out))
 have cQ:=fun wx (hx:Ext w0 wx) i=>af.cell (dx.blk (uI.more hx.out)) i
 have fU:=fun wx (hx:Ext w0 wx) i=>af.cell (gV.ag hx.out) i
 unfold mI at cQ
 have hg0:g<w0.heap.size:=ae
 clear hw0 nh
 go_region_held3(Ext w0) (with_reducible(first|assumption|exact Ext.start _)) (((with_reducible refine(abe.out _ (by assumption)).mono ?_);rintro e w1 ⟨rfl,hb1⟩;have jX:=Ext.to (by assumption) hb1))
 have xV:Hid (Ext w0 w1):=jX
 clear cQ fU jX abe
 have bj:=aa (ag bG xV.out)
 have np:=aa (uI.more xV.out)
 have iE:=aa (kK.ag xV.out)
 have fh:=aa (gV.ag xV.out)
 clear hb1 bG uI kK gV
 obtain⟨g1,mm,hv,hg0,hg1'⟩:=np.chans.form (by have:=bP HX;intro he;rw[he]at this;cases this)
 injection hv with e1 e2 e3
 subst e1 e3
 clear e2
 obtain⟨ad,B,d,hA,Co,jD,c0,c1,c2,c3,c4⟩:=oD.row np.Dx hx
 have lB:=aa jD
 injection hA with hA
 subst hA
 rw[nC,Nat.zero_add]at c0 c1 c2 c3 c4
 dsimp only at c1 c2 c3 c4
 have W7:g1<w.heap.size:=pH.2.1 g1 rfl
 have HG0:=aa hg0
 clear hg0
 rw[hu]at c2 N8
 obtain⟨bl,hbl⟩:=aD x.buf.length
 rw[<-hbl]at c4 N8
 have i1:(0:Int)<=(i:Int):=ae
 have i2:(i:Int)<(h.chans.length:Int):=ae
 clear hx hu hbl Co jD LS
 have Ca:w.heap.size+1<w1.heap.size:=iE.lt
 go_wp2_with fail
 go_upto_region 2 with fail
 go_cut[9,10,11,12] (fun s9 Xq s11 s12 wx=>abd w base g g1 c A n k t sq h A2 A3 m1 m2 m3 G s9 Xq s11 s12 wx)
 case first =>
  have ya:=aa (fun wx (hx:Ext w1 wx)=>np.more hx.out);have Dy:=aa (fun wx (hx:Ext w1 wx)=>iE.ag hx.out);have Cz:=aa (fun wx (hx:Ext w1 wx)=>N8 wx (ag bj hx.out) B d (lB.below hx.out));have cQ:=fun wx (hx:Ext w1 wx) i=>af.cell (dx.blk (ya wx hx)) i;have fU:=fun wx (hx:Ext w1 wx) i=>af.cell (fh.ag hx.out) i;unfold mI at cQ;have d0:=fun wx (hx:Ext w1 wx)=>hx.cell c0;have d1:=fun wx (hx:Ext w1 wx)=>hx.cell c1;have d2:=fun wx (hx:Ext w1 wx)=>hx.cell c2;have d3:=fun wx (hx:Ext w1 wx)=>hx.cell c3;have d4:=fun wx (hx:Ext w1 wx)=>hx.cell c4;have Si:Hid (af (w1.alloc pS).drew w1.heap.size 83 #[.int .i64 0,.int .i64 0,.bool false,.bool false,.slice none 0 0]):=af.new w1 83 #[.int .i64 0,.int .i64 0,.bool false,.bool false,.slice none 0 0];have gI:Hid (af (w1.alloc ij).drew w1.heap.size 48 #[.int .i64 0,.int .i64 0,.int .i64 0,.int .i64 0]):=af.new w1 48 #[.int .i64 0,.int .i64 0,.int .i64 0,.int .i64 0];have xG:Hid (af ((w1.alloc pS).alloc ij).drew w1.heap.size 83 #[.int .i64 0,.int .i64 0,.bool false,.bool false,.slice none 0 0]):=(af.new w1 83 #[.int .i64 0,.int .i64 0,.bool false,.bool false,.slice none 0 0]).alloc ij;have g9:Hid (af ((w1.alloc pS).alloc ij).drew (w1.heap.size+1) 48 #[.int .i64 0,.int .i64 0,.int .i64 0,.int .i64 0]):=af.newAt (w1.alloc pS) 48 #[.int .i64 0,.int .i64 0,.int .i64 0,.int .i64 0] aF;have KO:Hid (af ((w1.alloc ij).alloc pS).drew (w1.heap.size+1) 83 #[.int .i64 0,.int .i64 0,.bool false,.bool false,.slice none 0 0]):=af.newAt (w1.alloc ij) 83 #[.int .i64 0,.int .i64 0,.bool false,.bool false,.slice none 0 0] aF;have fx:Hid (af ((w1.alloc ij).alloc pS).drew w1.heap.size 48 #[.int .i64 0,.int .i64 0,.int .i64 0,.int .i64 0]):=(af.new w1 48 #[.int .i64 0,.int .i64 0,.int .i64 0,.int .i64 0]).alloc pS;clear c0 c1 c2 c3 c4;go_region_held3(Ext w1) (with_reducible(repeat(first|assumption|exact Ext.start _|exact Ext.fZ _ _|exact Ext.Aj _ _ _|refine Ext.alloc ?_ _|refine Ext.set ?_ (by simp;try omega)))) (((with_reducible refine(Cz.out _ (by assumption)).mono ?_);rintro e w2 ⟨B2,e2,A4,m4,D,dd,rfl,hP,hb2⟩;have uH:=Ext.to (by assumption) hb2;have HP:=aa hP;(try(have iq:=aa (Si.out.ag hb2);have hcc:=fun i=>af.cell iq.out i;have hfc:=fun i=>af.free iq.out i;have gH:=af.lt iq.out));(try(have AZ:=aa (gI.out.ag hb2);have TU:=fun i=>af.cell AZ.out i;have QS:=fun i=>af.free AZ.out i;have hgd:=af.lt AZ.out));(try(have iq:=aa (xG.out.ag hb2);have hcc:=fun i=>af.cell iq.out i;have hfc:=fun i=>af.free iq.out i;have gH:=af.lt iq.out));(try(have AZ:=aa (g9.out.ag hb2);have TU:=fun i=>af.cell AZ.out i;have QS:=fun i=>af.free AZ.out i;have hgd:=af.lt AZ.out));(try(have iq:=aa (KO.out.ag hb2);have hcc:=fun i=>af.cell iq.out i;have hfc:=fun i=>af.free iq.out i;have gH:=af.lt iq.out));(try(have AZ:=aa (fx.out.ag hb2);have TU:=fun i=>af.cell AZ.out i;have QS:=fun i=>af.free AZ.out i;have hgd:=af.lt AZ.out));clear hP))
  ·go_wp2_with fail;go_meet;have hz:=(Ext.out uH).size;refine⟨_,_,B2,e2,A4,m4,D,dd,rfl,rfl,rfl,rfl,?_,?_,ya.out _ (by assumption),Dy.out _ (by assumption),?_,ag bj.out (Ext.out (by assumption)),by omega,by omega,by omega⟩
   ·exact(af.new _ _ _).alloc _
   ·exact af.newAt _ _ _ aF
   ·exact(HP.weak (base':=w.heap.size) (by simp;omega)).more (ak (ak (aj _) _) _)
  ·go_wp2_with fail;go_meet;have hz:=(Ext.out uH).size;refine⟨_,_,B2,e2,A4,m4,D,dd,rfl,rfl,rfl,rfl,?_,?_,ya.out _ (by assumption),Dy.out _ (by assumption),?_,ag bj.out (Ext.out (by assumption)),by omega,by omega,by omega⟩
   ·exact af.newAt _ _ _ aF
   ·exact(af.new _ _ _).alloc _
   ·exact(HP.weak (base':=w.heap.size) (by simp;omega)).more (ak (ak (aj _) _) _)
  ·go_wp2_with fail;go_meet;have hz:=(Ext.out uH).size;have hT:=Two.one (v1:=[.int .i64 G.c.gen,.int .i64 G.c.cap,.bool G.c.used,.bool G.c.closed,.slice B2 G.c.buf.length e2]) iq rfl;refine⟨_,_,B2,e2,A4,m4,D,dd,rfl,rfl,rfl,rfl,?_,?_,ya.out _ (by assumption),Dy.out _ (by assumption),?_,ag bj.out (Ext.out (by assumption)),by omega,by omega,by omega⟩
   ·exact hT.2.alloc _
   ·exact af.newAt _ _ _ aF
   ·exact((HP.weak (base':=w.heap.size) (by simp;omega)).one hT.1).more (ak (aj _) _)
  ·go_wp2_with fail;go_meet;have hz:=(Ext.out uH).size;have hT:=Two.mk' (v1:=[.int .i64 G.c.gen,.int .i64 G.c.cap,.bool G.c.used,.bool G.c.closed,.slice B2 G.c.buf.length e2]) (v2:=[.int .i64 G.r.seq,.int .i64 G.r.cs,.int .i64 G.r.code,.int .i64 G.r.value]) iq AZ ae rfl rfl;refine⟨_,_,B2,e2,A4,m4,D,dd,rfl,rfl,rfl,rfl,?_,?_,ya.out _ (by assumption),Dy.out _ (by assumption),?_,ag bj.out (Ext.out (by assumption)),by omega,by omega,by omega⟩
   ·exact hT.2.1
   ·exact hT.2.2
   ·exact(HP.weak (base':=w.heap.size) (by simp;omega)).two hT.1
  ·go_wp2_with fail;go_meet;have hz:=(Ext.out uH).size;have hT:=Two.one (v1:=[.int .i64 G.r.seq,.int .i64 G.r.cs,.int .i64 G.r.code,.int .i64 G.r.value]) AZ rfl;refine⟨_,_,B2,e2,A4,m4,D,dd,rfl,rfl,rfl,rfl,?_,?_,ya.out _ (by assumption),Dy.out _ (by assumption),?_,ag bj.out (Ext.out (by assumption)),by omega,by omega,by omega⟩
   ·exact af.newAt _ _ _ aF
   ·exact hT.2.alloc _
   ·exact((HP.weak (base':=w.heap.size) (by simp;omega)).ones hT.1).more (ak (aj _) _)
  ·go_wp2_with fail;go_meet;have hz:=(Ext.out uH).size;have hT:=Two.mk' (v1:=[.int .i64 G.c.gen,.int .i64 G.c.cap,.bool G.c.used,.bool G.c.closed,.slice B2 G.c.buf.length e2]) (v2:=[.int .i64 G.r.seq,.int .i64 G.r.cs,.int .i64 G.r.code,.int .i64 G.r.value]) iq AZ ae rfl rfl;refine⟨_,_,B2,e2,A4,m4,D,dd,rfl,rfl,rfl,rfl,?_,?_,ya.out _ (by assumption),Dy.out _ (by assumption),?_,ag bj.out (Ext.out (by assumption)),by omega,by omega,by omega⟩
   ·exact hT.2.1
   ·exact hT.2.2
   ·exact(HP.weak (base':=w.heap.size) (by simp;omega)).two hT.1
 case rest =>
  obtain⟨p,q,B2,d2,A4,m4,D,dd,rfl,rfl,rfl,rfl,hC,hR,hV,hQ,hP,hB,hp,hq,hpq⟩:=hcut;have HC:=aa hC;have HR:=aa hR;have HV:=aa hV;have HQ:=aa hQ;have HP:=aa hP;have HB:=aa (hB.mono eP);have uf:=aa hB;have hne:g≠g1:=hV.Cx;have z8:g1≠g:=fun e=>hne e.symm;clear hC hR hV hQ hP hB np iE bj fh xV N8 lB c0 c1 c2 c3 c4;obtain⟨ad,B9,d9,hA,_,_,c0,c1,c2,c3,c4⟩:=oD.row HV.Dx HX;injection hA with hA
  subst hA;have f0:=HV.chans.ck (i*5);have f1:=HV.chans.ck (i*5+1);have f2:=HV.chans.ck (i*5+2);have f3:=HV.chans.ck (i*5+3);have f4:=HV.chans.ck (i*5+4);rw[nC,Nat.zero_add]at c0 c1 c2 c3 c4;dsimp only at c1 c2 c3 c4;have hcc:=fun i=>af.cell HC i;obtain⟨cQ,hfg,-⟩:=af.aK (dx.blk HV);have fV:=af.lt (dx.blk HV);unfold mI at cQ;go_wp2_with fail;go_region;have hG:=HV.got vE HP Xr.len eP;have TN:=aW (aW HQ (b:=w.heap.size+1) (g:=g1) ae [.int .i64 G.c.gen,.int .i64 G.c.cap,.bool G.c.used,.bool G.c.closed,.slice B2 G.c.buf.length d2] (i*5)) (g:=g) ae [.slice A4 h.waits.length m4] 2;have Dz:=aW (aW HR (b:=q) (g:=g1) ae [.int .i64 G.c.gen,.int .i64 G.c.cap,.bool G.c.used,.bool G.c.closed,.slice B2 G.c.buf.length d2] (i*5)) (g:=g) ae [.slice A4 h.waits.length m4] 2;have p9:Below base w (av (av wc g1 (i*5) [.int .i64 G.c.gen,.int .i64 G.c.cap,.bool G.c.used,.bool G.c.closed,.slice B2 G.c.buf.length d2]) g 2 [.slice A4 h.waits.length m4]):=aw HV.low _ _ _ (aw HG0 _ _ _ HB);have oG:Hid (ku w g (.slice (some ⟨g1,0,none⟩) h.chans.length m1) (.slice A3 h.done.length m3) (av (av wc g1 (i*5) [.int .i64 G.c.gen,.int .i64 G.c.cap,.bool G.c.used,.bool G.c.closed,.slice B2 G.c.buf.length d2]) g 2 [.slice A4 h.waits.length m4]).drew):=(((ku.ext uf).RS (q:=g1) rfl (i*5) [.int .i64 G.c.gen,.int .i64 G.c.cap,.bool G.c.used,.bool G.c.closed,.slice B2 G.c.buf.length d2]).NA _ _).drew;have wX:=(aj (av (av wc g1 (i*5) [.int .i64 G.c.gen,.int .i64 G.c.cap,.bool G.c.used,.bool G.c.closed,.slice B2 G.c.buf.length d2]) g 2 [.slice A4 h.waits.length m4])).drew;have wI:=aa (hG.1.more wX);have jd:=aa (hG.2.1.below wX);have Ba:=aa (fun b h1 h2=>(hG.2.2 b h1 h2).below wX);have pX:=aa (TN.ag wX);have Cc:=aa (Dz.ag wX);have iW:=aa p9.drew;clear hG TN Dz p9 wX c0 c1 c2 c3 c4 f0 f1 f2 f3 f4 cQ hfg hcc fV HC HR HV HQ HP HB;change Exit.then _ _ _ _ (av (av wc g1 (i*5) [.int .i64 G.c.gen,.int .i64 G.c.cap,.bool G.c.used,.bool G.c.closed,.slice B2 G.c.buf.length d2]) g 2 [.slice A4 h.waits.length m4]).drew;generalize(av (av wc g1 (i*5) [.int .i64 G.c.gen,.int .i64 G.c.cap,.bool G.c.used,.bool G.c.closed,.slice B2 G.c.buf.length d2]) g 2 [.slice A4 h.waits.length m4]).drew=w5 at *;go_wp2_with fail;refine(Fa _ wI D dd G.told rfl (bm Xr.told (bm P4 ah)) jd Ba (fun x hx=>by rw[pd.out];exact Xr.th x hx) N7).mono ?_;rintro e w3 ⟨rfl,UA,IG,od⟩;have NY:=aa UA;have uG:=aa (oG.tell (by have:=pX.lt;omega) od (RR _ _ _ _ _));have fJ:=aa (iW.trans IG);have kV:Hid (∀b,(Value.slice A3 (Mo.gj h.done G.told).length m3).ownBlock=some b->b<w.heap.size):=by unfold Hid;rw[kX];exact pH.2.2.2
  have lQ:Hid (af w3 (w.heap.size+1) 48 #[.int .i64 0,.int .i64 0,.int .i64 0,.int .i64 0]):=(od (w.heap.size+1) pX.lt (fun he=>absurd (kV _ he.symm) ae)).trans pX;have UC:Hid (af w3 q 48 #[.int .i64 G.r.seq,.int .i64 G.r.cs,.int .i64 G.r.code,.int .i64 G.r.value]):=(od q Cc.lt (fun he=>absurd (kV _ he.symm) ae)).trans Cc;clear UA IG od wI pX Cc iW jd Ba;obtain⟨jG,si,-⟩:=af.aK UC;have hgr:=af.lt UC;obtain⟨dh,cW,-⟩:=af.aK lQ;have cY:=af.lt lQ;obtain⟨cQ,hfg,-⟩:=af.aK (dx.blk NY);have fV:=af.lt (dx.blk NY);unfold mI at cQ;clear hfg;go_wp2_with fail;have HV6:=aa (dx.JJ NY UC ah ah ah ah ah (fun b hb=>Nat.ne_of_lt (bF (kV b hb) ae)) 1 [.int .i64 wh]);have Us:=aa (aW lQ (b:=w.heap.size+1) (g:=q) ae [.int .i64 wh] 1);have wT:Hid (Below base w (av w3 q 1 [.int .i64 wh])):=aw ae _ _ _ fJ;have PR:=aa (fun b hb=>Nat.ne_of_lt (Nat.lt_succ_of_lt (kV b hb)));clear jG si hgr;have dZ:=aR (vs:=[.int .i64 G.r.seq,.int .i64 wh,.int .i64 G.r.code,.int .i64 G.r.value]) Us rfl;have uS:=dx.JJ HV6 Us ah ah ah ah ah PR 0 [.int .i64 G.r.seq,.int .i64 wh,.int .i64 G.r.code,.int .i64 G.r.value];have fy:Below base w (av (av w3 q 1 [.int .i64 wh]) (w.heap.size+1) 0 [.int .i64 G.r.seq,.int .i64 wh,.int .i64 G.r.code,.int .i64 G.r.value]):=aw (Nat.le_succ_of_le eP) _ _ _ wT;change bodyPost _ _ _ _ _ (av (av w3 q 1 [.int .i64 wh]) (w.heap.size+1) 0 [.int .i64 G.r.seq,.int .i64 wh,.int .i64 G.r.code,.int .i64 G.r.value]);have uT:=rW.out _ ((uG.new (q:=q) ae 1 [.int .i64 wh]).new (q:=(w.heap.size+1)) ae 0 [.int .i64 G.r.seq,.int .i64 wh,.int .i64 G.r.code,.int .i64 G.r.value]);clear dh cW cY cQ fV;generalize av (av w3 q 1 [.int .i64 wh]) (w.heap.size+1) 0 [.int .i64 G.r.seq,.int .i64 wh,.int .i64 G.r.code,.int .i64 G.r.value]=wz at *;have eO:=fun i=>af.cell dZ i;refine bodyPost_ret (v:=.agg #[.int .i64 G.r.seq,.int .i64 wh,.int .i64 G.r.code,.int .i64 G.r.value]) ?_ rfl ?_
  ·simp[results,results287,go_sem,eO]
  ·rw[HG.out];exact⟨rfl,⟨_,_,uS⟩,fy,uT⟩
end
theorem zb{cs:List Mo.Cs}(h0:cs≠[])(h3:cs.length<=3)(hm:∀k∈cs,Mo.mL k=true):Mo.eA h cs=if(cs.any fun k=>(Mo.cC h k.2.1).isNone)=true then 8 else 0:=by unfold Mo.eA;rw[ai (by rintro(e|e);exact h0 (List.length_eq_zero_iff.1 e);omega),ai];intro e;obtain⟨k,hk,e⟩:=List.any_eq_true.1 e;have:=Mo.mU.1 (hm k hk);simp only[Bool.or_eq_true,dI,bne_iff_ne,cU]at e;omega
theorem Ob{cs:List Mo.Cs}(h3:cs.length<=3)(hm:∀k∈cs,Mo.mL k=true){z:Mo.Cs}(hz:cs[j]?=some z)(hf:Mo.cC h z.2.1=none):Mo.eA h cs=8:=by rw[zb (by rintro rfl;cases hz) h3 hm,au];exact List.any_eq_true.2 ⟨z,dO hz,by rw[hf];rfl⟩
theorem Oc{cs:List Mo.Cs}(h0:cs≠[])(h3:cs.length<=3)(hm:∀k∈cs,Mo.mL k=true)(hf:∀(j:Nat) (z:Mo.Cs),j<cs.length->cs[j]?=some z->(Mo.cC h z.2.1).isSome=true):Mo.eA h cs=0:=by rw[zb h0 h3 hm,ai];intro e;obtain⟨k,hk,e⟩:=List.any_eq_true.1 e;obtain⟨j,hj,hz⟩:=List.mem_iff_getElem.1 hk;have:=hf j k hj (by rw[cD hj,hz]);cases h9:Mo.cC h k.2.1<;>rw[h9]at e this<;>simp at e this
section
variable(w:World) {base g:Nat} {c:Mo.bH} {A:Option Addr} {n k:Nat} {t sq:Int} {h:Mo.Hl} {A1 A2 A3:Option Addr} {m1 m2 m3:Nat}
theorem JM(H:dx w base g c A n k t sq h A1 A2 A3 m1 m2 m3)(cs:List Mo.Cs)(D:Option Addr)(ql qd:Nat)(DA:ql=cs.length)(hr:cN w bk D cs)(hm:∀k∈cs,Mo.mL k=true)(h3:cs.length<=3) :
 Calls prog 285 #[.pointer g,.slice D ql qd] w (Un (Mo.eA h cs) w):=by
 have Jh:g<w.heap.size:=H.blk.lt
 have nh:=aa (fun wx (uD:Below w w wx) hd=>nj wx h.ay A1 m1 h.chans rfl ((H.more uD).Dx) (.slice A2 h.waits.length m2) (.slice A3 h.done.length m3) h.waits h.done hd)
 have HV:=aa H;have HR:=aa hr;have HM:=aa hm;have HN:=aa DA;have H3:=aa h3
 have rN:ql<=3:=ae
 clear H hr hm DA h3
 by_cases h0:cs=[]
 ·have hq0:ql=0:=by have:=HN.out;rw[h0]at this;exact this
  subst hq0;have HG:Hid (Mo.eA h cs=1):=by unfold Hid;rw[h0];rfl
  clear h0 nh;go_enter func285,ntmps285;go_wp2_with fail;go_ret;exact⟨jU HG.symm,aj w⟩
 ·have Ij:0<ql:=by have:=HN.out;have:=List.length_pos_iff.2 h0;omega
  have hq0:((ql:Int)==0)=false:=by simp;omega
  have H0:=aa h0;clear h0;go_enter func285,ntmps285;go_wp2_with fail;go_loopw[21] (fun i wr=>∃j:Nat,j<=ql/\i=j/\Hid (Below w w wr)) (fun i _=>ql-(intOf i).toNat);case atStart=>exact⟨0,aY _,rfl,aj w⟩
  case round =>
   obtain⟨j,hj,rfl,HB⟩:=hrel;by_cases hlt:j<ql
   ·obtain⟨ad,z,hA,hz,hcell⟩:=cN.at_ eZ ah (HR.below HB) (i:=j) (by rw[<-HN.out];exact hlt);have hmz:=Mo.mU.1 (HM z (dO hz));have c0:=hcell 0 _ rfl;have c1:=hcell 1 _ rfl;have c2:=hcell 2 _ rfl;simp only[add_zero]at c0;rw[add_lit _ _ ah]at c1 c2;subst hA;obtain⟨z0,z1,z2⟩:=z;dsimp only at c0 c1 c2 hmz;have v0:¬z2<0:=ae;have v1:¬(4294967295:Int)<z2:=ae;clear hcell hz;have T5:=aa (ak HB (.cells #[z0,z1,z2] 110));rcases hmz.1 with e0|e0
    all_goals
     subst e0;clear hmz;go_wp2_with fail;go_roundw;case rel=>exact⟨j+1,ae,by go_num,T5⟩
     case measure=>simp[intOf];omega
   ·skip;go_wp2_with fail;go_loopw[46] (fun i wr=>∃j:Nat,j<=ql/\i=j/\Hid (Below w w wr)/\Hid (∀(i:Nat) (z:Mo.Cs),i<j->cs[i]?=some z->(Mo.cC h z.2.1).isSome=true)) (fun i _=>ql-(intOf i).toNat);case atStart=>exact⟨0,aY _,rfl,HB,fun i z h=>absurd h (Nat.not_lt_zero _)⟩
    case round =>
     clear hj HB;obtain⟨j,hj,rfl,HB,HF⟩:=hrel;by_cases hlt:j<ql
     ·obtain⟨ad,z,hA,hz,hcell⟩:=cN.at_ eZ ah (HR.below HB) (i:=j) (by rw[<-HN.out];exact hlt);have c0:=hcell 0 _ rfl;have c1:=hcell 1 _ rfl;have c2:=hcell 2 _ rfl;simp only[add_zero]at c0;rw[add_lit _ _ ah]at c1 c2;subst hA;have HZ:=aa hz;have T5:=aa (ak HB (.cells #[z.1,z.2.1,z.2.2] 110));have HKz:Hid (af (wr.alloc (.cells #[z.1,z.2.1,z.2.2] 110)) wr.heap.size 110 #[z.1,z.2.1,z.2.2]):=af.new _ _ _;have hzz:=HB.size;clear hcell hz;go_wp2_with fail;generalize(wr.alloc (.cells #[z.1,z.2.1,z.2.2] 110))=w9 at *;have Sn:=aa (fun wx (hx:Ext w9 wx)=>nh wx (ag T5 hx.out) z.2.1);have cQ:=fun wx (hx:Ext w9 wx) i=>af.cell (dx.blk (HV.more (ag T5 hx.out))) i;have fU:=fun wx (hx:Ext w9 wx) i=>af.cell (HKz.ag hx.out) i;unfold mI at cQ;have YU:=YB T5 Jh;have hk9:=HKz.lt;have e9:Mo.cC ⟨h.ay,h.chans,h.waits,h.done⟩ z.2.1=Mo.cC h z.2.1:=rfl;rw[e9]at Sn;clear e9 c0 c1 c2;rcases hf:Mo.cC h z.2.1 with _|i
      ·rw[hf]at Sn;have HG:Hid (Mo.eA h cs=8):=Ob H3 HM HZ hf;clear hf;go_region_held3(Ext w9) (with_reducible(first|assumption|exact Ext.start _)) (((with_reducible refine(Sn.out _ (by assumption)).mono ?_);rintro e w1 ⟨rfl,hb1⟩;have jX:=Ext.to (by assumption) hb1));have xV:=aa jX;clear jX hb1 cQ fU;go_wp2_with fail;go_ret;exact⟨jU HG.symm,ag T5 xV.out⟩
      ·rw[hf]at Sn;have HS:Hid ((Mo.cC h z.2.1).isSome=true):=by unfold Hid;rw[hf];rfl
       clear hf;go_region_held3(Ext w9) (with_reducible(first|assumption|exact Ext.start _)) (((with_reducible refine(Sn.out _ (by assumption)).mono ?_);rintro e w1 ⟨rfl,hb1⟩;have jX:=Ext.to (by assumption) hb1));have xV:=aa jX;clear jX hb1 cQ fU;go_wp2_with fail;go_roundw;case rel=>exact⟨j+1,ae,by go_num,ag T5 xV.out,fun i' z' h1 h2=>by
        by_cases e:i'<j
        ·exact HF.out i' z' e h2
        ·have:i'=j:=ae;subst this;rw[HZ.out]at h2;injection h2 with h2
         subst h2;exact HS.out⟩
       case measure=>simp[intOf];omega
     ·go_wp2_with fail;go_ret;exact⟨jU (Oc H0 H3 HM (fun i z h1 h2=>HF i z (by have:=HN.out;omega) h2)).symm,HB⟩
end
section
variable(w:World)
theorem Sp(A:Option Addr)(c:Nat)(xs:List Mo.Wt)(hn:n=xs.length)(hl:n<=100000)(hr:fX w A xs)(hc:∀x∈xs,x.cases.length<=100000)(hx:xs[j]?=some x)(jN:x.on=true)(tk sq:Int)(D:Option Addr)(dl dd:Nat) :
 Calls prog 288 #[.slice A n c,j,.agg #[false,tk,sq,.slice D dl dd]] w fun e w'=>∃v,e=.returned (.tuple #[v,false])/\Below w w w':=by
 have oa:=aa (ib (w.alloc (.cells #[false,tk,sq,.slice D dl dd] 79)) A c xs hn hl (hr.jl aP (ak (aj w) _)) hc)
 have HX:=aa hx
 have hlt:j<n:=by rw[hn];exact cE hx
 have Ul:=aa (fun w'=>Aa w' A n c j ae)
 have HR:=aa (fun w' (hb:Below w w w')=>fX.row (hr.jl aP hb) hx)
 obtain⟨ad0,_,_,hA,_⟩:=fX.row hr hx
 subst hA
 have bG:Hid (Below w w (w.alloc (.cells #[false,tk,sq,.slice D dl dd] 79))):=ak (aj w) _
 clear hn hr hc hx
 go_enter func288,ntmps288
 go_wp2_with fail
 refine oa.mono ?_
 rintro e w1 ⟨v,rfl,A1,c1,rfl,eo,hb1⟩
 have bj:=aa (ag bG hb1)
 clear eo hb1 oa
 go_wp2_with fail
 refine(Ul _).mono ?_
 rintro e w2 ⟨rfl,rfl⟩
 obtain⟨ad,_,_,hA,_,_,k0,_⟩:=HR.out w1 bj
 injection hA with hA
 subst hA
 rw[jN]at k0
 clear jN
 go_wp2_with fail
 go_ret2
 exact⟨_,rfl,bj⟩
theorem JN(x:Mo.Ch)(B:Option Addr)(bl d:Nat)(hbl:bl=x.buf.length)(hu:x.used=true)(A:Option Addr)(c:Nat)(xs:List Mo.Wt)(hn:n=xs.length)(hl:n<=100000)(hr:fX w A xs)(hc:∀x∈xs,x.cases.length<=100000)(hd dir:Int)(Ak:dir=1\/dir=2) :
 Calls prog 286 #[.agg #[x.gen,x.cap,x.used,x.closed,.slice B bl d],hd,.slice A n c,dir] w fun e w'=>e=.returned (Mo.dH x hd xs dir)/\Below w w w':=by
 rcases Ak with rfl|rfl
 ·exact wM w x B bl d hbl hu A c xs hn hl hr hc hd
 ·exact wO w x B bl d hbl hu A c xs hn hl hr hc hd
end
def Fc(h:Mo.Hl)(cs:List Mo.Cs)(j:Nat):Prop:=∀(i:Nat) (z:Mo.Cs),i<j->cs[i]?=some z->Mo.dH (Mo.gD h ((Mo.cC h z.2.1).getD 0)) z.2.1 h.waits z.1=false
theorem Fc.next{cs:List Mo.Cs}{z:Mo.Cs}(hN:Fc h cs j)(hz:cs[j]?=some z)(hr:Mo.dH (Mo.gD h ((Mo.cC h z.2.1).getD 0)) z.2.1 h.waits z.1=false):Fc h cs (j+1):=fun i y hi hy=>by
 by_cases e:i<j
 ·exact hN i y e hy
 ·have:i=j:=ae;subst this;rw[hz]at hy;injection hy with hy
  subst hy;exact hr
theorem JO{cs:List Mo.Cs}(he:Mo.eA h cs=0){k:Mo.Cs}(hk:k∈cs):∃i,Mo.cC h k.2.1=some i:=by
 unfold Mo.eA at he;split at he
 ·cases he
 ·split at he
  ·cases he
  ·split at he
   ·cases he
   ·rename_i h3;cases e:Mo.cC h k.2.1 with
    |some i=>exact⟨i,rfl⟩
    |none=>exact absurd (List.any_eq_true.2 ⟨k,hk,by rw[e];rfl⟩) h3
theorem Fe{t:Int}{q:Mo.Rq}(he:Mo.eA h q.cases=0){z:Mo.Cs}(hN:Fc h q.cases j)(hz:q.cases[j]?=some z)(hr:Mo.dH (Mo.gD h ((Mo.cC h z.2.1).getD 0)) z.2.1 h.waits z.1=true):Mo.eB h t seq q=Mo.Bk h j z:=by
 unfold Mo.eB;rw[ai (by rw[he];decide)];have:q.cases.findIdx? (fun k=>Mo.dH (Mo.gD h ((Mo.cC h k.2.1).getD 0)) k.2.1 h.waits k.1)=some j:=by
  have hj:=cE hz;rw[List.findIdx?_eq_some_iff_getElem];have e:q.cases[j]=z:=by rw[cD hj]at hz;injection hz
  refine⟨hj,by rw[e];exact hr,fun i hi=>?_⟩;have:=hN i _ hi (cD ae);simpa using this
 rw[this];dsimp only;rw[eR,hz];rfl
theorem CA{t:Int}{q:Mo.Rq}(he:Mo.eA h q.cases=0)(hN:Fc h q.cases q.cases.length):Mo.eB h t seq q=if q.dflt=true then(h,Mo.bD 10)else if 4294967295<=h.ay then(h,Mo.bD 7)else match Mo.Bj h.waits t ⟨false,h.ay,seq,q.cases⟩with|none=>(h,Mo.bD 13)|some l=>({h with waits:=l,ay:=h.ay+1},Mo.bD 14):=by
 unfold Mo.eB;rw[ai (by rw[he];decide)];have:q.cases.findIdx? (fun k=>Mo.dH (Mo.gD h ((Mo.cC h k.2.1).getD 0)) k.2.1 h.waits k.1)=none:=by rw[List.findIdx?_eq_none_iff];intro x hx;obtain⟨i,hi,e⟩:=List.mem_iff_getElem.1 hx;have:=hN i x hi (by rw[cD hi,e]);exact this
 rw[this];rfl
theorem dx.abf{t:Int}(H:dx w base g c A n k t sq h A1 A2 A3 m1 m2 m3){xs:List Mo.Wt}(hx:ko w base (.slice A4 xs.length m4) xs)(tk:Int) :
 dx ((av w g 2 [.slice A4 xs.length m4]).setCell ⟨g,0,none⟩ tk) base g c A n k t sq {h with waits:=xs,ay:=tk} A1 A4 A3 m1 m4 m3:=by
 have h1:=H.NX hx
 have hb:=h1.blk
 have mi:∀b,gJ (av w g 2 [.slice A4 xs.length m4]) b->b≠g:=fun b hb' he=>by subst he;exact gJ.not hb ah ah hb'
 have Y5:Sm (gJ (av w g 2 [.slice A4 xs.length m4])) (av w g 2 [.slice A4 xs.length m4]) ((av w g 2 [.slice A4 xs.length m4]).setCell ⟨g,0,none⟩ tk):=fun b hb'=>dp _ _ _ _ (mi b hb')
 refine⟨hb.bb 0 _,?_,?_,bB h1.done hb ah 0 _,h1.low⟩
 ·exact(aH.move b9 h1.chans Y5 (fun g' tN=>dp _ _ _ _ (aH.other h1.chans hb ah g' tN))).mono b9 fun b hb'=>hb'.bb _ _
 ·exact(aH.move aP h1.waits Y5 (fun g' tN=>dp _ _ _ _ (aH.other h1.waits hb ah g' tN))).mono aP fun b hb'=>hb'.bb _ _
section
variable{w w1 w2:World} {base g:Nat} {c:Mo.bH} {A:Option Addr} {n k:Nat} {t sq:Int} {h:Mo.Hl} {A1 A2 A3:Option Addr} {m1 m2 m3:Nat}
theorem ku.trans(h:ku w g v1 v3 w1)(hs:w.heap.size<=w1.heap.size)(h':ku w1 g v1 v3 w2):ku w g v1 v3 w2:=fun b h0 h1 h2 h3=>(h' b ae h1 h2 h3).trans (h b h0 h1 h2 h3)
theorem KS.pass{p:Mo.Hl×Mo.Rs}{e:Ending}{A2':Option Addr}{m2':Nat}(hE:KS base g c A n k t sq A1 A3 m1 m3 p w1 e w2)(H:dx w base g c A n k t sq h A1 A2 A3 m1 m2 m3)(H1:dx w1 base g c A n k t sq h A1 A2' A3 m1 m2' m3)(hB:Below w w w1)(hq:w.heap.size<=q){c1:List Value}(hQ:af w1 q 48 c1.toArray)(hl:c1.length=4) :
 af w2 q 48 c1.toArray/\KS base g c A n k t sq A1 A3 m1 m3 p w (.returned (.agg #[p.2.seq,p.2.cs,p.2.code,p.2.value])) (av w2 q 0 [p.2.seq,p.2.cs,p.2.code,p.2.value]) /\
 af (av w2 q 0 [p.2.seq,p.2.cs,p.2.code,p.2.value]) q 48 #[p.2.seq,p.2.cs,p.2.code,p.2.value]:=by
 obtain⟨_,⟨A9,m9,hV⟩,hb,hf⟩:=hE
 have KT:=H.uo
 have eP:base<=w.heap.size:=bm H.low (Nat.le_of_lt H.blk.lt)
 have hF:=H1.frX hf
 have hne:q≠g:=by have:=KT.1;omega
 have vU:af w2 q 48 c1.toArray:=(hF q hQ.lt hne (fun h=>by have:=KT.2.1 q h;omega) (fun h=>by have:=KT.2.2.2 q h;omega)).trans hQ
 refine⟨vU,⟨rfl,⟨A9,m9,hV.JJ vU ah ah ah ah ah (fun b hb he=>?_) 0 _⟩,aw ae _ _ _ ((hB.mono eP).trans hb),H.P2 _ (((ku.ext hB).trans hB.size hF).new hq 0 _)⟩,aR vU hl⟩
 subst he
 rw[RR A3 _ _ h.done.length m3]at hb
 have:=KT.2.2.2 _ hb
 omega
end
section
variable(w:World) {base g:Nat} {c:Mo.bH} {A:Option Addr} {n k:Nat} {t sq:Int} {h:Mo.Hl} {A1 A2 A3:Option Addr} {m1 m2 m3:Nat}
theorem Ff(H:dx w base g c A n k t sq h A1 A2 A3 m1 m2 m3)(hb:RQ h)(q:Mo.Rq)(D:Option Addr)(ql qd:Nat)(DA:ql=q.cases.length)(hr:cN w bk D q.cases)(hq:Mo.bt q=true)(jk:h.done.length=h.waits.length)(r8:0<=t)(tQ:t<h.waits.length)(Br:0<=h.ay/\h.ay<=4294967295) :
 Calls prog 276 #[.pointer g,.agg #[q.kind,q.arg,q.value,q.dflt,.slice D ql qd]] w (KS base g c A n k t sq A1 A3 m1 m3 (Mo.eB h t sq q) w):=by
 have cW:=Mo.jM.1 hq
 have HM:=aa cW.2.2.2.2
 have H3:=aa cW.2.2.2.1
 clear cW hq
 have bG:Hid (Below w w ((w.alloc (iG q D ql qd)).alloc ij)):=ak (ak (aj w) _) _
 have gV:Hid (af ((w.alloc (iG q D ql qd)).alloc ij) w.heap.size 42 #[q.kind,q.arg,q.value,q.dflt,.slice D ql qd]):=(af.new _ _ _).alloc _
 have kK:Hid (af ((w.alloc (iG q D ql qd)).alloc ij) (w.heap.size+1) 48 #[oZ,oZ,oZ,oZ]):=(af.newAt _ _ _ aF)
 have uI:=aa (H.more bG)
 have pH:=aa H.uo
 have eP:base<=w.heap.size:=bm H.low (Nat.le_of_lt H.blk.lt)
 have Jh:g<w.heap.size:=H.blk.lt
 have HCA:=aa (JM ((w.alloc (iG q D ql qd)).alloc ij) uI q.cases D ql qd DA (hr.below bG) HM H3)
 have HR:=aa hr;have HN:=aa DA;have pd:=aa jk;have HH:=aa hb;have uF:=aa H;have rW:=aa H.P2
 have gw:=aa tQ
 have lR:((w.alloc (iG q D ql qd)).alloc ij).heap.size=w.heap.size+1+1:=aF
 obtain⟨w0,hw0⟩:=aD ((w.alloc (iG q D ql qd)).alloc ij)
 have rN:ql<=3:=by have:=H3.out;omega
 clear H hb hr DA jk tQ
 go_enter func276,ntmps276
 go_wp2_with fail
 rw[<-hw0]at bG gV kK uI lR HCA ⊢
 have dh:=fun i=>af.cell gV i
 have cY:=af.lt gV
 clear hw0
 go_wp2_with fail
 refine HCA.mono ?_
 rintro e w1 ⟨rfl,hb1⟩
 have bj:=aa (ag bG hb1)
 have np:=aa (uI.more hb1)
 have iE:=aa (kK.ag hb1)
 have fh:=aa (gV.ag hb1)
 have Ca:w.heap.size+1<w1.heap.size:=iE.lt
 clear hb1 bG uI kK gV HCA dh cY lR
 by_cases he:Mo.eA h q.cases=0
 ·have HE:=aa he;rw[he];clear he;have fU:=fun i=>af.cell fh i;have ya:=aa (fun wx (hx:Ext w1 wx)=>np.more hx.out);have Dy:=aa (fun wx (hx:Ext w1 wx)=>iE.ag hx.out);have nh:=aa (fun wx (hx:Ext w1 wx) hd=>nj wx h.ay A1 m1 h.chans rfl ((ya wx hx).Dx) (.slice A2 h.waits.length m2) (.slice A3 h.done.length m3) h.waits h.done hd);go_wp2_with fail;clear fU;go_loopw[23] (fun i wr=>∃j:Nat,j<=ql/\i=j/\Hid (Ext w1 wr)/\Hid (Fc h q.cases j)) (fun i _=>ql-(intOf i).toNat);case atStart=>exact⟨0,aY _,rfl,aj w1,fun i z h=>absurd h (Nat.not_lt_zero _)⟩
  case round =>
   obtain⟨j,hj,rfl,Xt,TP⟩:=hrel;by_cases hlt:j<ql
   ·obtain⟨ad,z,hA,hz,hcell⟩:=cN.at_ eZ ah (HR.below (ag bj Xt)) (i:=j) (by rw[<-HN.out];exact hlt);have Ak:z.1=1\/z.1=2:=(Mo.mU.1 (HM z (bP hz))).1;have c0:=hcell 0 _ rfl;have c1:=hcell 1 _ rfl;have c2:=hcell 2 _ rfl;simp only[add_zero]at c0;rw[add_lit _ _ ah]at c1 c2;subst hA;obtain⟨i,hfi⟩:=JO HE (bP hz);obtain⟨x,hx,hu,hrst⟩:=nk hfi;clear hrst;have hch:Mo.gD h i=x:=by unfold Mo.gD;rw[eR,hx];rfl
    have HZ:=aa hz;have HD:=aa Ak;have HFD:=aa hfi;have HX:=aa hx;have HCH:=aa hch;have Xu:=aa (Ext.alloc Xt (.cells #[z.1,z.2.1,z.2.2] 110));have HK9:Hid (af (wr.alloc (.cells #[z.1,z.2.1,z.2.2] 110)) wr.heap.size 110 #[z.1,z.2.1,z.2.2]):=af.new _ _ _;have hzz:=Xt.size;have vE:i<h.chans.length:=cE hx;clear hcell hz Ak hfi hch;go_wp2_with fail;generalize(wr.alloc (.cells #[z.1,z.2.1,z.2.2] 110))=w9 at *;have Sn:=aa (fun wx (hx:Ext w9 wx)=>nh wx (Xu.to hx.out) z.2.1);have cQ:=fun wx (hx:Ext w9 wx) i=>af.cell (dx.blk (ya wx (Xu.to hx.out))) i;have fU:=fun wx (hx:Ext w9 wx) i=>af.cell (HK9.ag hx.out) i;unfold mI at cQ;have YU:g<w9.heap.size:=by have:=Xu.size;omega
    have hk9:=HK9.lt;have e9:Mo.cC ⟨h.ay,h.chans,h.waits,h.done⟩ z.2.1=some i:=HFD.out;rw[e9]at Sn;clear e9 c0 c1 c2;go_region_held3(Ext w9) (with_reducible(first|assumption|exact Ext.start _)) (((with_reducible refine(Sn.out _ (by assumption)).mono ?_);rintro e uU ⟨rfl,hb1⟩;have jX:=Ext.to (by assumption) hb1));have Oe:=aa (Xu.to jX.out);have Xv:=aa (HK9.ag jX.out);have aef:=jX.out.size;clear jX hb1 cQ fU Xu HK9 Sn;obtain⟨ad2,B,d,hA,Co,jD,c0,c1,c2,c3,c4⟩:=oD.row (ya _ Oe).Dx hx;subst hA;obtain⟨bl,hbl⟩:=aD x.buf.length;have HRY:=aa (fun wx (hy:Ext uU wx)=>JN wx x B bl d hbl hu A2 m2 h.waits rfl (bm HH.waits ah) (ya wx (Oe.to hy.out)).Uw (fun y hy=>bm (HH.cases y hy) ah) z.2.1 z.1 HD);rw[<-hbl]at c4;rw[hu]at c2 HRY;have i1:(0:Int)<=(i:Int):=ae;have i2:(i:Int)<(h.chans.length:Int):=ae;clear hx hbl Co jD hu;go_wp2_with fail;have cQ:=fun wx (hx:Ext uU wx) i=>af.cell (dx.blk (ya wx (Oe.to hx.out))) i;have fU:=fun wx (hx:Ext uU wx) i=>af.cell (Xv.ag hx.out) i;unfold mI at cQ;have d0:=fun wx (hx:Ext uU wx)=>hx.cell c0;have d1:=fun wx (hx:Ext uU wx)=>hx.cell c1;have d2:=fun wx (hx:Ext uU wx)=>hx.cell c2;have d3:=fun wx (hx:Ext uU wx)=>hx.cell c3;have d4:=fun wx (hx:Ext uU wx)=>hx.cell c4;have aeg:g<uU.heap.size:=ae;have aeh:=Xv.lt;clear c0 c1 c2 c3 c4;rcases jD:Mo.dH x z.2.1 h.waits z.1 with _|_
    ·rw[jD]at HRY;have lB:Hid (Mo.dH (Mo.gD h ((Mo.cC h z.2.1).getD 0)) z.2.1 h.waits z.1=false):=by unfold Hid;rw[HFD.out];dsimp only[Option.getD_some];rw[HCH.out];exact jD
     clear jD;go_region_held3(Ext uU) (with_reducible(first|assumption|exact Ext.start _)) (((with_reducible refine(HRY.out _ (by assumption)).mono ?_);rintro e w11 ⟨rfl,hb1⟩;have jX:=Ext.to (by assumption) hb1));have JP:=aa (Oe.to jX.out);clear jX hb1 cQ fU d0 d1 d2 d3 d4;go_wp2_with fail;go_roundw;case rel=>exact⟨j+1,ae,by go_num,JP,TP.next HZ lB⟩
     case measure=>simp[intOf];omega
    ·rw[jD]at HRY;have lB:Hid (Mo.dH (Mo.gD h i) z.2.1 h.waits z.1=true):=by unfold Hid;rw[HCH.out];exact jD
     have HG:Hid (Mo.eB h t sq q=Mo.Bk h j z):=Fe HE TP HZ (by rw[HFD.out];dsimp only[Option.getD_some];exact lB.out);clear jD;go_region_held3(Ext uU) (with_reducible(first|assumption|exact Ext.start _)) (((with_reducible refine(HRY.out _ (by assumption)).mono ?_);rintro e w11 ⟨rfl,hb1⟩;have jX:=Ext.to (by assumption) hb1));have JP:=aa (Oe.to jX.out);have ac5:=aa (Xv.ag jX.out);clear jX hb1 cQ fU d0 d1 d2 d3 d4;obtain⟨fU,-,EO⟩:=af.aK ac5;go_wp2_with fail;have hne:h.done≠[]:=by have:=pd.out;intro e;rw[e]at this;simp at this;have:=gw.out;omega
     refine(Oa _ (ya _ JP) HH j z HD pd hne HFD lB).mono ?_;rintro e w12 hE;have HP:=aa (hE.pass uF (ya _ JP) (ag bj JP) (q:=w.heap.size+1) (bU _) (c1:=[oZ,oZ,oZ,oZ]) (Dy _ JP) rfl);have he:e=_:=hE.1;rw[<-HG.out]at HP he;obtain⟨pp,CD⟩:=aD (Mo.eB h t sq q);rw[<-CD]at HP he;have HPQ:=aa CD;clear CD;subst he;clear hE fU EO hne;obtain⟨dh,cW,-⟩:=af.aK HP.1;have cY:=af.lt HP.1;go_wp2_with fail;have eO:=fun i=>af.cell HP.2.2 i;change bodyPost _ _ _ _ _ (av w12 (w.heap.size+1) 0 [pp.2.seq,pp.2.cs,pp.2.code,pp.2.value]);clear dh cW cY;have UD:=aa HP.2.1;generalize av w12 (w.heap.size+1) 0 [pp.2.seq,pp.2.cs,pp.2.code,pp.2.value]=wz at *;refine bodyPost_ret (v:=.agg #[pp.2.seq,pp.2.cs,pp.2.code,pp.2.value]) ?_ rfl (by rw[<-HPQ.out];exact UD.out);exact Y6
   ·have tG:Hid (Fc h q.cases q.cases.length):=by
     have:=HN.out;have:j=q.cases.length:=ae;unfold Hid;rw[<-this];exact TP.out
    have HC:=aa (CA (t:=t) (seq:=sq) HE tG)
    have HVr:=aa (ya _ Xt);have Xw:=aa (Dy _ Xt);have pw:=aa (fh.ag Xt);have uf:=aa (ag bj Xt)
    have Rg:=aa (uf.mono eP)
    obtain⟨fU,-,EO⟩:=af.aK pw
    obtain⟨dh,cW,-⟩:=af.aK Xw
    have cY:=af.lt Xw
    obtain⟨cQ,hfg,-⟩:=af.aK (dx.blk HVr)
    have fV:=af.lt (dx.blk HVr)
    unfold mI at cQ
    clear TP ya Dy nh hfg
    cases hdf:q.dflt with
    |true =>
     rw[hdf]at fU;have HG:Hid (Mo.eB h t sq q=(h,Mo.bD 10)):=by unfold Hid;rw[HC.out,au hdf]
     clear hdf;go_wp2_with fail;clear fU EO;have dZ:=aR (vs:=[oZ,oZ,.int .i64 10,oZ]) Xw rfl;have uS:=dx.far HVr pH (bU _) Xw ah ah 0 [oZ,oZ,.int .i64 10,oZ];have fy:Below base w (av wr (w.heap.size+1) 0 [oZ,oZ,.int .i64 10,oZ]):=aw (Nat.le_succ_of_le eP) _ _ _ Rg;change bodyPost _ _ _ _ _ (av wr (w.heap.size+1) 0 [oZ,oZ,.int .i64 10,oZ]);have uT:=rW.out _ ((ku.ext uf).new (q:=(w.heap.size+1)) ae 0 [oZ,oZ,.int .i64 10,oZ]);clear dh cW cY cQ fV;generalize av wr (w.heap.size+1) 0 [oZ,oZ,.int .i64 10,oZ]=wz at *;have eO:=fun i=>af.cell dZ i;refine bodyPost_ret (v:=.agg #[oZ,oZ,.int .i64 10,oZ]) ?_ rfl ?_
     ·exact Y6
     ·exact Uz
    |false =>
     rw[hdf]at fU;have iq:Hid (Mo.eB h t sq q=if 4294967295<=h.ay then(h,Mo.bD 7)else match Mo.Bj h.waits t ⟨false,h.ay,sq,q.cases⟩with|none=>(h,Mo.bD 13)|some l=>({h with waits:=l,ay:=h.ay+1},Mo.bD 14)):=by unfold Hid;rw[HC.out,ai (by rw[hdf];decide)]
     clear hdf;by_cases hti:4294967295<=h.ay
     ·have HG:Hid (Mo.eB h t sq q=(h,Mo.bD 7)):=by unfold Hid;rw[iq.out,au hti]
      go_wp2_with fail;clear fU EO;have dZ:=aR (vs:=[oZ,oZ,.int .i64 7,oZ]) Xw rfl;have uS:=dx.far HVr pH (bU _) Xw ah ah 0 [oZ,oZ,.int .i64 7,oZ];have fy:Below base w (av wr (w.heap.size+1) 0 [oZ,oZ,.int .i64 7,oZ]):=aw (Nat.le_succ_of_le eP) _ _ _ Rg;change bodyPost _ _ _ _ _ (av wr (w.heap.size+1) 0 [oZ,oZ,.int .i64 7,oZ]);have uT:=rW.out _ ((ku.ext uf).new (q:=(w.heap.size+1)) ae 0 [oZ,oZ,.int .i64 7,oZ]);clear dh cW cY cQ fV;generalize av wr (w.heap.size+1) 0 [oZ,oZ,.int .i64 7,oZ]=wz at *;have eO:=fun i=>af.cell dZ i;refine bodyPost_ret (v:=.agg #[oZ,oZ,.int .i64 7,oZ]) ?_ rfl ?_
      ·exact Y6
      ·exact Uz
     ·have pY:Hid (Mo.eB h t sq q=match Mo.Bj h.waits t ⟨false,h.ay,sq,q.cases⟩with|none=>(h,Mo.bD 13)|some l=>({h with waits:=l,ay:=h.ay+1},Mo.bD 14)):=by unfold Hid;rw[iq.out,ai hti]
      have GR:=aa (fun wx (hx:Ext wr wx)=>HVr.more hx.out);have Z6:=aa (fun wx (hx:Ext wr wx)=>pw.ag hx.out);have MP:=aa (fun wx (hx:Ext wr wx)=>Xw.ag hx.out);obtain⟨tj,rfl⟩:∃tj:Nat,t=tj:=⟨t.toNat,ae⟩
      have Y7:tj<h.waits.length:=by have:=gw.out;omega
      obtain⟨y,hy⟩:∃y,h.waits[tj]?=some y:=⟨_,cD Y7⟩
      have HY:=aa hy;clear hy;go_wp2_with fail;clear cQ fU dh cW cY;have cQ:=fun wx (hx:Ext wr wx) i=>af.cell (dx.blk (GR wx hx)) i;have fU:=fun wx (hx:Ext wr wx) i=>af.cell (Z6 wx hx) i;unfold mI at cQ;cases jN:y.on with
      |true =>
       have HG:Hid (Mo.eB h tj sq q=(h,Mo.bD 13)):=by unfold Hid;rw[pY.out];unfold Mo.Bj;rw[ai ae,fF,HY.out];dsimp only;rw[au jN]
       have HPU:=aa (fun wx (hx:Ext wr wx)=>Sp wx A2 m2 h.waits rfl (bm HH.waits ah) (GR wx hx).Uw (fun y hy=>bm (HH.cases y hy) ah) HY jN h.ay sq D ql qd);clear jN;go_region_held3(Ext wr) (with_reducible(first|assumption|exact Ext.start _)) (((with_reducible refine(HPU.out _ (by assumption)).mono ?_);rintro e w5 ⟨v,rfl,hb1⟩;have jX:=Ext.to (by assumption) hb1));have sZ:=aa jX;clear jX hb1 cQ fU EO fV;have wI:=aa (GR _ sZ);have pX:=aa (MP _ sZ);have Xx:=aa (ag uf sZ);have iW:=aa ((ag uf sZ).mono eP);obtain⟨dh,cW,-⟩:=af.aK pX;have cY:=af.lt pX;obtain⟨cQ,hfg,-⟩:=af.aK (dx.blk wI);have fV:=af.lt (dx.blk wI);unfold mI at cQ;clear hfg;go_wp2_with fail;have dZ:=aR (vs:=[oZ,oZ,.int .i64 13,oZ]) pX rfl;have uS:=dx.far wI pH (bU _) pX ah ah 0 [oZ,oZ,.int .i64 13,oZ];have fy:Below base w (av w5 (w.heap.size+1) 0 [oZ,oZ,.int .i64 13,oZ]):=aw (Nat.le_succ_of_le eP) _ _ _ iW;change bodyPost _ _ _ _ _ (av w5 (w.heap.size+1) 0 [oZ,oZ,.int .i64 13,oZ]);have uT:=rW.out _ ((ku.ext Xx).new (q:=(w.heap.size+1)) ae 0 [oZ,oZ,.int .i64 13,oZ]);clear dh cW cY cQ fV;generalize av w5 (w.heap.size+1) 0 [oZ,oZ,.int .i64 13,oZ]=wz at *;have eO:=fun i=>af.cell dZ i;refine bodyPost_ret (v:=.agg #[oZ,oZ,.int .i64 13,oZ]) ?_ rfl ?_
       ·exact Y6
       ·exact Uz
      |false =>
       have HG:Hid (Mo.eB h tj sq q=({h with waits:=h.waits.set tj ⟨true,h.ay,sq,q.cases⟩,ay:=h.ay+1},Mo.bD 14)):=by unfold Hid;rw[pY.out];unfold Mo.Bj;rw[ai ae,fF,HY.out];dsimp only;rw[ai (by rw[jN];decide)]
       have HPU:=aa (fun wx (hx:Ext wr wx)=>MZ wx A2 m2 h.waits rfl (bm HH.waits ah) (GR wx hx).Uw (fun y hy=>bm (HH.cases y hy) ah) HY jN h.ay sq q.cases D ql qd HN (by have:=HN.out;have:=H3.out;omega) (HR.below (ag uf hx.out)));clear jN;go_region_held3(Ext wr) (with_reducible(first|assumption|exact Ext.start _)) (((with_reducible refine(HPU.out _ (by assumption)).mono ?_);rintro e w5 ⟨v,rfl,A5,m5,rfl,hW5,hb1⟩;have jX:=Ext.to (by assumption) hb1;have Y4:=aa hW5;clear hW5));have sZ:=aa jX;have CE:(h.waits.set tj ⟨true,h.ay,sq,q.cases⟩).length=h.waits.length:=cK;have HW6:=aa (Y4.weak (base':=base) (by have:=uf.size;simp;omega));rw[<-CE]at HW6;clear jX hb1 cQ fU EO fV;have wI:=aa (GR _ sZ);have pX:=aa (MP _ sZ);have Xx:=aa (ag uf sZ);have iW:=aa ((ag uf sZ).mono eP);obtain⟨dh,cW,-⟩:=af.aK pX;have cY:=af.lt pX;obtain⟨cQ,hfg,-⟩:=af.aK (dx.blk wI);have fV:=af.lt (dx.blk wI);unfold mI at cQ;have aei:h.ay+1<=4294967295:=ae;go_wp2_with fail;have HV6:=aa (wI.abf HW6 (h.ay+1));have Us:=aa ((aW pX (b:=w.heap.size+1) (g:=g) ae [.slice A5 h.waits.length m5] 2).far (p:=⟨g,0,none⟩) (by show w.heap.size+1≠g;omega) (.int .i64 (h.ay+1)));have wT:Hid (Below base w ((av w5 g 2 [.slice A5 h.waits.length m5]).setCell ⟨g,0,none⟩ (.int .i64 (h.ay+1)))):=(aw wI.low [.slice A5 h.waits.length m5] _ 2 iW).setCell wI.low _;have KU:Hid (ku w g (.slice A1 h.chans.length m1) (.slice A3 h.done.length m3) ((av w5 g 2 [.slice A5 h.waits.length m5]).setCell ⟨g,0,none⟩ (.int .i64 (h.ay+1)))):=((ku.ext Xx).NA 2 [.slice A5 h.waits.length m5]).NA 0 [.int .i64 (h.ay+1)];rw[CE]at HV6;have PR:=aa (fun b hb=>Nat.ne_of_lt (Nat.lt_succ_of_lt (pH.2.2.2 b hb)));clear hfg;have dZ:=aR (vs:=[oZ,oZ,.int .i64 14,oZ]) Us rfl;have uS:=dx.JJ HV6 Us ah ah ah ah ah PR 0 [oZ,oZ,.int .i64 14,oZ];have fy:Below base w (av ((av w5 g 2 [.slice A5 h.waits.length m5]).setCell ⟨g,0,none⟩ (.int .i64 (h.ay+1))) (w.heap.size+1) 0 [oZ,oZ,.int .i64 14,oZ]):=aw (Nat.le_succ_of_le eP) _ _ _ wT;change bodyPost _ _ _ _ _ (av ((av w5 g 2 [.slice A5 h.waits.length m5]).setCell ⟨g,0,none⟩ (.int .i64 (h.ay+1))) (w.heap.size+1) 0 [oZ,oZ,.int .i64 14,oZ]);have uT:=rW.out _ (KU.new (q:=(w.heap.size+1)) ae 0 [oZ,oZ,.int .i64 14,oZ]);clear dh cW cY cQ fV;generalize av ((av w5 g 2 [.slice A5 h.waits.length m5]).setCell ⟨g,0,none⟩ (.int .i64 (h.ay+1))) (w.heap.size+1) 0 [oZ,oZ,.int .i64 14,oZ]=wz at *;have eO:=fun i=>af.cell dZ i;refine bodyPost_ret (v:=.agg #[oZ,oZ,.int .i64 14,oZ]) ?_ rfl ?_
       ·exact Y6
       ·exact Uz
 ·have HG:Hid (Mo.eB h t sq q=(h,Mo.bD (Mo.eA h q.cases))):=by unfold Hid Mo.eB;rw[au he]
  have d0:(Mo.eA h q.cases !=0)=true:=by simpa using he
  clear he;obtain⟨ce,hce⟩:=aD (Mo.eA h q.cases);rw[<-hce]at HG d0 ⊢;clear hce;obtain⟨dh,cW,-⟩:=af.aK iE;have cY:=af.lt iE;obtain⟨cQ,hfg,-⟩:=af.aK (dx.blk np);have fV:=af.lt (dx.blk np);unfold mI at cQ;clear hfg;go_wp2_with fail;have Rg:=aa (bj.mono eP);have uf:=aa bj;have dZ:=aR (vs:=[oZ,oZ,ce,oZ]) iE rfl;have uS:=dx.far np pH (bU _) iE ah ah 0 [oZ,oZ,ce,oZ];have fy:Below base w (av w1 (w.heap.size+1) 0 [oZ,oZ,ce,oZ]):=aw (Nat.le_succ_of_le eP) _ _ _ Rg;change bodyPost _ _ _ _ _ (av w1 (w.heap.size+1) 0 [oZ,oZ,ce,oZ]);have uT:=rW.out _ ((ku.ext uf).new (q:=(w.heap.size+1)) ae 0 [oZ,oZ,ce,oZ]);clear dh cW cY cQ fV;generalize av w1 (w.heap.size+1) 0 [oZ,oZ,ce,oZ]=wz at *;have eO:=fun i=>af.cell dZ i;refine bodyPost_ret (v:=.agg #[oZ,oZ,ce,oZ]) ?_ rfl ?_
  ·exact Y6
  ·exact Uz
end
section
variable(w:World) {base g:Nat} {c:Mo.bH} {A:Option Addr} {n k:Nat} {t sq:Int} {h:Mo.Hl} {A1 A2 A3:Option Addr} {m1 m2 m3:Nat}
theorem JQ(H:dx w base g c A n k t sq h A1 A2 A3 m1 m2 m3)(hb:RQ h)(hg1:c.ba<=4095)(q:Mo.Rq)(D:Option Addr)(ql qd:Nat)(DA:ql=q.cases.length)(hr:cN w bk D q.cases)(hq:Mo.bt q=true)(jk:h.done.length=h.waits.length)(r8:0<=t)(tQ:t<h.waits.length)(Br:0<=h.ay/\h.ay<=4294967295) :
 Calls prog 264 #[.pointer g,.agg #[q.kind,q.arg,q.value,q.dflt,.slice D ql qd]] w (KS base g c A n k t sq A1 A3 m1 m3 (Mo.ik c h t sq q) w):=by
 have hk:=(Mo.jM.1 hq).1
 obtain⟨ki,ar,va,df,cs⟩:=q
 have HQ:=aa hq;have HR:=aa hr;have HN:=aa DA;have pd:=aa jk;have HH:=aa hb;have uF:=aa H;have rW:=aa H.P2
 have gw:=aa tQ
 have hne:h.done≠[]:=by intro e;rw[e]at jk;simp at jk;omega
 have N7:=aa hne
 dsimp only at hk
 clear hq hr DA jk hb tQ hne
 have bG:Hid (Below w w ((w.alloc (.cells #[ki,ar,va,df,.slice D ql qd] 42)).alloc ij)):=ak (ak (aj w) _) _
 have gV:Hid (af ((w.alloc (.cells #[ki,ar,va,df,.slice D ql qd] 42)).alloc ij) w.heap.size 42 #[ki,ar,va,df,.slice D ql qd]):=(af.new _ _ _).alloc _
 have kK:Hid (af ((w.alloc (.cells #[ki,ar,va,df,.slice D ql qd] 42)).alloc ij) (w.heap.size+1) 48 #[oZ,oZ,oZ,oZ]):=(af.newAt _ _ _ aF)
 have uI:=aa (H.more bG)
 have pH:=aa H.uo
 have eP:base<=w.heap.size:=bm H.low (Nat.le_of_lt H.blk.lt)
 have Jh:g<w.heap.size:=H.blk.lt
 clear H
 dsimp only
 by_cases hk8:8<=ki
 ·have HG:Hid (Mo.ik c h t sq ⟨ki,ar,va,df,cs⟩=(h,Mo.bD 1)):=by unfold Hid Mo.ik;dsimp only;rw[ai ae,ai ae,ai ae,ai ae,ai ae,ai ae]
  have d1:(ki==1)=false:=cq.2 ae;have d2:(ki==2)=false:=cq.2 ae;have d3:(ki==3)=false:=cq.2 ae;have d4:(ki==4)=false:=cq.2 ae;have d5:(ki==5)=false:=cq.2 ae;have d6:(ki==6)=false:=cq.2 ae;have d7:(ki==7)=false:=cq.2 ae;have HV9:=aa (uF.more (ak (ak (aj w) (.cells #[ki,ar,va,df,.slice D ql qd] 42)) (pD 0 0 1 0)));have Uc:=aa ((ak (ak (aj w) (.cells #[ki,ar,va,df,.slice D ql qd] 42)) (pD 0 0 1 0)).mono eP);have Sq:=aa (rW _ (.ext (ak (ak (aj w) (.cells #[ki,ar,va,df,.slice D ql qd] 42)) (pD 0 0 1 0))));go_enter func264,ntmps264;go_wp2_with fail;refine bodyPost_ret (v:=.agg #[oZ,oZ,.int .i64 1,oZ]) ?_ rfl ?_
  ·simp[results,results264,go_sem]
  ·rw[HG.out];exact⟨rfl,⟨_,_,HV9⟩,Uc,Sq⟩
 ·have gR:ki=1\/ki=2\/ki=3\/ki=4\/ki=5\/ki=6\/ki=7:=ae;clear hk hk8;have lR:((w.alloc (.cells #[ki,ar,va,df,.slice D ql qd] 42)).alloc ij).heap.size=w.heap.size+1+1:=aF;obtain⟨w0,hw0⟩:=aD ((w.alloc (.cells #[ki,ar,va,df,.slice D ql qd] 42)).alloc ij);rcases gR with rfl|rfl|rfl|rfl|rfl|rfl|rfl
  all_goals
   go_enter func264,ntmps264;go_wp2_with fail;rw[<-hw0]at bG gV kK uI lR ⊢;obtain⟨fU,-,EO⟩:=af.aK gV;clear hw0
  ·have HG:Hid (Mo.ik c h t sq ⟨1,ar,va,df,cs⟩=Mo.pZ c h ar):=rfl;go_wp2_with fail;refine(ND _ uI HH hg1 ar).mono ?_;rintro e w3 hE;have HP:=aa (hE.pass uF uI bG (q:=w.heap.size+1) (bU _) (c1:=[oZ,oZ,oZ,oZ]) kK rfl);have he:e=_:=hE.1;rw[<-HG.out]at HP he;obtain⟨pp,CD⟩:=aD (Mo.ik c h t sq ⟨1,ar,va,df,cs⟩);exact Xy
  ·have HG:Hid (Mo.ik c h t sq ⟨2,ar,va,df,cs⟩=Mo.oJ h ar):=rfl;go_wp2_with fail;refine(NW _ uI HH ar).mono ?_;rintro e w3 hE;have HP:=aa (hE.pass uF uI bG (q:=w.heap.size+1) (bU _) (c1:=[oZ,oZ,oZ,oZ]) kK rfl);have he:e=_:=hE.1;rw[<-HG.out]at HP he;obtain⟨pp,CD⟩:=aD (Mo.ik c h t sq ⟨2,ar,va,df,cs⟩);exact Xy
  ·have HG:Hid (Mo.ik c h t sq ⟨3,ar,va,df,cs⟩=Mo.eB h t sq ⟨3,ar,va,df,cs⟩):=rfl;go_wp2_with fail;refine(Ff _ uI HH ⟨3,ar,va,df,cs⟩ D ql qd HN (HR.below bG) HQ pd r8 gw Br).mono ?_;rintro e w3 hE;have HP:=aa (hE.pass uF uI bG (q:=w.heap.size+1) (bU _) (c1:=[oZ,oZ,oZ,oZ]) kK rfl);have he:e=_:=hE.1;rw[<-HG.out]at HP he;obtain⟨pp,CD⟩:=aD (Mo.ik c h t sq ⟨3,ar,va,df,cs⟩);exact Xy
  ·have HG:Hid (Mo.ik c h t sq ⟨4,ar,va,df,cs⟩=Mo.q8 h ar):=rfl;go_wp2_with fail;refine(JL _ uI HH ar pd N7).mono ?_;rintro e w3 hE;have HP:=aa (hE.pass uF uI bG (q:=w.heap.size+1) (bU _) (c1:=[oZ,oZ,oZ,oZ]) kK rfl);have he:e=_:=hE.1;rw[<-HG.out]at HP he;obtain⟨pp,CD⟩:=aD (Mo.ik c h t sq ⟨4,ar,va,df,cs⟩);exact Xy
  ·have HG:Hid (Mo.ik c h t sq ⟨5,ar,va,df,cs⟩=(h,Mo.n7 h ⟨5,ar,va,df,cs⟩)):=rfl;go_wp2_with fail;refine(Cw _ uI ⟨5,ar,va,df,cs⟩ D ql qd).mono ?_;rintro e w3 hE;have HP:=aa (hE.pass uF uI bG (q:=w.heap.size+1) (bU _) (c1:=[oZ,oZ,oZ,oZ]) kK rfl);have he:e=_:=hE.1;rw[<-HG.out]at HP he;obtain⟨pp,CD⟩:=aD (Mo.ik c h t sq ⟨5,ar,va,df,cs⟩);exact Xy
  ·have HG:Hid (Mo.ik c h t sq ⟨6,ar,va,df,cs⟩=(h,Mo.n7 h ⟨6,ar,va,df,cs⟩)):=rfl;go_wp2_with fail;refine(Cw _ uI ⟨6,ar,va,df,cs⟩ D ql qd).mono ?_;rintro e w3 hE;have HP:=aa (hE.pass uF uI bG (q:=w.heap.size+1) (bU _) (c1:=[oZ,oZ,oZ,oZ]) kK rfl);have he:e=_:=hE.1;rw[<-HG.out]at HP he;obtain⟨pp,CD⟩:=aD (Mo.ik c h t sq ⟨6,ar,va,df,cs⟩);exact Xy
  ·have HG:Hid (Mo.ik c h t sq ⟨7,ar,va,df,cs⟩=Mo.gX h t ar va):=rfl;go_wp2_with fail;refine(Fb _ uI HH ar va pd).mono ?_;rintro e w3 hE;have HP:=aa (hE.pass uF uI bG (q:=w.heap.size+1) (bU _) (c1:=[oZ,oZ,oZ,oZ]) kK rfl);have he:e=_:=hE.1;rw[<-HG.out]at HP he;obtain⟨pp,CD⟩:=aD (Mo.ik c h t sq ⟨7,ar,va,df,cs⟩);exact Xy
end
structure uJ (w:World) (base:Nat) (h:Mo.Hl) (A1 A2 A3:Option Addr) (n1 n2 n3 m1 m2 m3:Nat):Prop where
 ch:MX w base (.slice A1 n1 m1) h.chans
 wt:ko w base (.slice A2 n2 m2) h.waits
 dn:aI w base 48 4 dA (.slice A3 n3 m3) h.done
theorem uJ.more(H:uJ w base h A1 A2 A3 n1 n2 n3 m1 m2 m3)(hb:Below w w w'):uJ w' base h A1 A2 A3 n1 n2 n3 m1 m2 m3:=⟨H.ch.jl b9 hb,H.wt.jl aP hb,H.dn.ag hb⟩
theorem uJ.far(H:uJ w base h A1 A2 A3 n1 n2 n3 m1 m2 m3)(hq:q<base)(hy:af w q ty ys)(h1:ty≠3)(h2:ty≠110)(o:Nat)(vs:List Value):uJ (av w q o vs) base h A1 A2 A3 n1 n2 n3 m1 m2 m3:=by
 have mi:∀b,gJ w b->b≠q:=fun b hb he=>by subst he;exact gJ.not hy h1 h2 hb
 refine⟨?_,?_,bR (fun b hb=>by have:=(aX H.dn hb).1;omega) _ _ _ _ H.dn⟩
 ·exact(aH.move b9 H.ch (fun b hb=>aM (mi b hb) _ _) (fun b hb=>aM (by have:=(aH.lt H.ch hb).1;omega) _ _)).mono b9 (fun b hb=>eT _ _ _ hb)
 ·exact(aH.move aP H.wt (fun b hb=>aM (mi b hb) _ _) (fun b hb=>aM (by have:=(aH.lt H.wt hb).1;omega) _ _)).mono aP (fun b hb=>eT _ _ _ hb)
theorem uJ.put(H:uJ w base h g1 A2 A3 n1 n2 n3 m1 m2 m3){x:Mo.Ch}(hx:h.chans[i]?=some x)(hd:x.buf.length<=d)(hr:bC w .i64 B x.buf)(hB:∀b,B=some b->x.buf≠[]->Ty w 3 b.block) :
 uJ (av w g1 (i*5) [x.gen,x.cap,x.used,x.closed,.slice B x.buf.length d]) base h g1 A2 A3 n1 n2 n3 m1 m2 m3:=by
 obtain⟨ys,hg,hgb⟩:=H.ch.ty
 have mi:¬gJ w g1:=gJ.not hg ah ah
 refine⟨?_,?_,?_⟩
 ·have key:MX (av w g1 (i*5) [x.gen,x.cap,x.used,x.closed,.slice B x.buf.length d]) base (.slice g1 n1 m1) (h.chans.set i x):=(H.ch.Jf b9 (cE hx) _ rfl (by intro u hu;simp at hu;rcases hu with rfl|rfl|rfl|rfl|rfl<;>rfl) mi (y:=x) ⟨B,d,rfl,hd,hr,fun ad ha hne=>.inl (hB ad ha hne)⟩).mono b9 (fun b hb=>eT _ _ _ hb);have e:h.chans.set i x=h.chans:=by
   obtain⟨hi,he⟩:=List.getElem?_eq_some_iff.1 hx;rw[<-he];exact List.set_getElem_self hi
  rwa [e]at key
 ·exact abg
 ·exact bR (fun b hb he=>by subst he;exact ed H.dn hg ah hb.symm) _ _ _ _ H.dn
def Y8(w:World)(h:Mo.Hl)(n1 n2 n3:Nat)(wx:World)(B1 B2 B3:Option Addr)(d1 d2 d3:Nat):Prop:=af wx w.heap.size 71 #[h.ay,.slice B1 n1 d1,.slice B2 n2 d2,.slice B3 n3 d3]/\af wx (w.heap.size+1) 71 #[oZ,oN,oN,oN]/\uJ wx (w.heap.size+2) h B1 B2 B3 n1 n2 n3 d1 d2 d3/\Below w w wx
def CpC(w:World)(h:Mo.Hl)(n1 n2 n3:Nat)(wx:World):Prop:=∃B1 B2 B3 d1 d2 d3,Y8 w h n1 n2 n3 wx B1 B2 B3 d1 d2 d3
theorem Y8.more{w1 w2:World}(H:Y8 w h n1 n2 n3 w1 B1 B2 B3 d1 d2 d3)(hb:Below w1 w1 w2):Y8 w h n1 n2 n3 w2 B1 B2 B3 d1 d2 d3:=⟨H.1.ag hb,H.2.1.ag hb,H.2.2.1.more hb,ag H.2.2.2 hb⟩
theorem CpC.of{w3:World}{v2:Value}(hK:af w3 w.heap.size 71 #[h.ay,v1,v2,v3])(hQ:af w3 (w.heap.size+1) 71 #[oZ,oN,oN,oN])(o:uJ w3 (w.heap.size+2) h B1 B2 B3 n1 n2 n3 d1 d2 d3)(hB:Below w w w3) :
 CpC w h n1 n2 n3 (((w3.setCell ⟨w.heap.size,1,none⟩ (.slice B1 n1 d1)).setCell ⟨w.heap.size,2,none⟩ (.slice B2 n2 d2)).setCell ⟨w.heap.size,3,none⟩ (.slice B3 n3 d3)) :=
 ⟨B1,B2,B3,d1,d2,d3,((hK.bb 1 _).bb 2 _).bb 3 _,aW hQ ae [.slice B1 n1 d1,.slice B2 n2 d2,.slice B3 n3 d3] 1,o.far ae hK ah ah 1 [.slice B1 n1 d1,.slice B2 n2 d2,.slice B3 n3 d3],aw (aS _) [.slice B1 n1 d1,.slice B2 n2 d2,.slice B3 n3 d3] _ 1 hB⟩
def Y9(h:Mo.Hl)(w:World)(e:Ending)(w':World):Prop:=∃A1 A2 A3 m1 m2 m3,e=.returned (.agg #[h.ay,.slice A1 h.chans.length m1,.slice A2 h.waits.length m2,.slice A3 h.done.length m3])/\uJ w' w.heap.size h A1 A2 A3 h.chans.length h.waits.length h.done.length m1 m2 m3/\Below w w w'
section
variable(w:World)
theorem JR(h:Mo.Hl)(A1 A2 A3:Option Addr)(n1 n2 n3 m1 m2 m3:Nat)(nS:n1=h.chans.length)(sY:n2=h.waits.length)(ua:n3=h.done.length)(l1:n1<=1000)(l2:n2<=1000)(l3:n3<=1000)(h1:oD w A1 h.chans)(h2:fX w A2 h.waits)(h3:cN w dA A3 h.done)(AH:∀x∈h.chans,x.buf.length<=90000)(hcs:∀x∈h.waits,x.cases.length<=90000) :
 Calls prog 263 #[.agg #[h.ay,.slice A1 n1 m1,.slice A2 n2 m2,.slice A3 n3 m3]] w (Y9 h w):=by
 have C1:=aa (fun wx (hb:Below w w wx)=>Ci wx A1 m1 h.chans nS ae (h1.jl b9 hb))
 have C2:=aa (fun wx (hb:Below w w wx)=>ib wx A2 m2 h.waits sY ae (h2.jl aP hb) (fun x hx=>bm (hcs x hx) ah))
 have C3:=aa (fun wx (hb:Below w w wx)=>qB wx A3 m3 h.done ua ae (h3.below hb))
 have N1:=aa nS;have N2:=aa sY;have N3:=aa ua;have HBF:=aa AH
 clear h1 h2 h3 AH hcs nS sY ua
 have bG:Hid (Below w w ((w.alloc (sB h.ay A1 n1 m1 A2 n2 m2 A3 n3 m3)).alloc yw)):=ak (ak (aj w) _) _
 have fI:Below w w (((w.alloc (sB h.ay A1 n1 m1 A2 n2 m2 A3 n3 m3)).alloc yw).drew):=(ak (ak (aj w) _) _).drew
 have GD:af (((w.alloc (sB h.ay A1 n1 m1 A2 n2 m2 A3 n3 m3)).alloc yw).drew) w.heap.size 71 #[h.ay,.slice A1 n1 m1,.slice A2 n2 m2,.slice A3 n3 m3]:=(af.new _ _ _).alloc _
 have rE:af (((w.alloc (sB h.ay A1 n1 m1 A2 n2 m2 A3 n3 m3)).alloc yw).drew) (w.heap.size+1) 71 #[oZ,oN,oN,oN]:=(af.newAt _ _ _ aF)
 go_enter func263,ntmps263
 go_wp2_with fail
 go_upto_region 1 with fail
 go_cut[] (fun wx=>CpC w h n1 n2 n3 wx)
 case first =>
  go_region_law(first
   |(go_simp;go_at_call 271;refine(C1 _ fI).mono ?_;rintro e w1 ⟨B1,d1,rfl,eo,hb1⟩;have ma:=ag fI hb1;have tV:=GD.ag hb1;have sW:=rE.ag hb1;have Q6:=fun i=>af.cell tV i;go_wp2_with fail)
   |(go_simp;go_at_call 272;refine(C2 _ ma).mono ?_;rintro e w2 ⟨v2,rfl,B2,d2,rfl,fN,hb2⟩;have qO:=ag ma hb2;have hK2:=tV.ag hb2;have vU:=sW.ag hb2;have aaj:=fun i=>af.cell hK2 i;go_wp2_with fail)
   |(go_simp;go_at_call 267;refine(C3 _ qO).mono ?_;rintro e w3 ⟨B3,d3,rfl,hc3,mA,hb3⟩;have oU:=ag qO hb3;have hK3:=hK2.ag hb3;have sf:=vU.ag hb3;have abh:=fun i=>af.cell hK3 i;have abi:=fun i=>af.free hK3 i;have abj:=hK3.lt;go_wp2_with fail))
  all_goals
   go_wp2_with fail;go_meet;exact CpC.of hK3 sf ⟨((eo.weak (base':=w.heap.size+2) aF).jl b9 hb2).jl b9 hb3,(fN.weak (base':=w.heap.size+2) (by have:=hb1.size;simp at this;omega)).jl aP hb3,mA.weak (base':=w.heap.size+2) (by have:=hb1.size;have:=hb2.size;simp at *;omega)⟩ oU
 case rest =>
  obtain⟨B1,B2,B3,d1,d2,d3,hV⟩:=hcut;have HV:=aa hV;obtain⟨fU,-,km⟩:=af.aK hV.1;clear hV fI GD rE C1 C2 C3 bG;go_wp2_with fail;clear fU km;go_loopw[19] (fun i wr=>∃j:Nat,j<=n1/\i=j/\Hid (Y8 w h n1 n2 n3 wr B1 B2 B3 d1 d2 d3)) (fun i _=>n1-(intOf i).toNat);case atStart=>exact⟨0,aY _,rfl,HV⟩
  case round =>
   obtain⟨j,hj,rfl,HR⟩:=hrel;obtain⟨fU,-,km⟩:=af.aK HR.1;by_cases hlt:j<n1
   ·obtain⟨x,hx⟩:∃x,h.chans[j]?=some x:=⟨_,cD (by rw[<-N1.out];exact hlt)⟩
    obtain⟨g1,c',hv,hg0,hg1⟩:=HR.2.2.1.ch.form (by have:=bP hx;intro e;rw[e]at this;cases this);injection hv with e1 e2 e3
    subst e1 e3;clear e2;obtain⟨r,hP,ju,hcell⟩:=HR.2.2.1.ch.at_ hx;obtain⟨D,dd,rfl,hdd,hRd⟩:=hP;have c0:=hcell 0 _ rfl;rw[Nat.add_zero]at c0;have c1:=hcell 1 _ rfl;have c2:=hcell 2 _ rfl;have c3:=hcell 3 _ rfl;have c4:=hcell 4 _ rfl;have HX:=aa hx;have pW:=aa (fun wx (hb:Below wr wr wx)=>kW wx x D x.buf.length dd rfl (bm (HBF x (bP hx)) ah) (hRd.1.below hb));have i1:(0:Int)<=(j:Int):=ae;have i2:(j:Int)<(n1:Int):=ae;clear hcell hx hRd hdd ju;go_wp2_with fail;have f0:=HR.2.2.1.ch.ck (j*5);have f1:=HR.2.2.1.ch.ck (j*5+1);have f2:=HR.2.2.1.ch.ck (j*5+2);have f3:=HR.2.2.1.ch.ck (j*5+3);have f4:=HR.2.2.1.ch.ck (j*5+4);have Co:Below wr wr wr.drew:=(aj wr).drew;go_region_law(first
     |(go_simp;go_at_call 273;refine(pW _ Co).mono ?_;rintro e w5 ⟨v5,rfl,B5,e5,rfl,kv,di⟩;have fO:=ag Co di;have EM:=fun i=>af.cell (af.ag HR.1 fO) i;have k0:=(fO.cell (p:=⟨g1,j*5,none⟩) hg1).trans c0;have k1:=(fO.cell (p:=⟨g1,j*5+1,none⟩) hg1).trans c1;have k2:=(fO.cell (p:=⟨g1,j*5+2,none⟩) hg1).trans c2;have k3:=(fO.cell (p:=⟨g1,j*5+3,none⟩) hg1).trans c3;have k4:=(fO.cell (p:=⟨g1,j*5+4,none⟩) hg1).trans c4;have j0:=(fO.frozen (p:=⟨g1,j*5,none⟩) hg1).trans f0;have j1:=(fO.frozen (p:=⟨g1,j*5+1,none⟩) hg1).trans f1;have j2:=(fO.frozen (p:=⟨g1,j*5+2,none⟩) hg1).trans f2;have j3:=(fO.frozen (p:=⟨g1,j*5+3,none⟩) hg1).trans f3;have j4:=(fO.frozen (p:=⟨g1,j*5+4,none⟩) hg1).trans f4;have sr:=YB fO hg1;go_wp2_with fail))
    all_goals
     have H5:=HR.more fO;have Ro:w.heap.size≠g1:=ae;have Rp:w.heap.size+1≠g1:=ae;have Mb:Y8 w h n1 n2 n3 (av w5 g1 (j*5) [x.gen,x.cap,x.used,x.closed,.slice B5 x.buf.length e5]) g1 B2 B3 d1 d2 d3:=⟨aW H5.1 Ro _ _,aW H5.2.1 Rp _ _,H5.2.2.1.put HX kv.cap.2 kv.pU.2 (fun b hb _=>by subst hb;exact uQ kv),aw ae _ _ _ H5.2.2.2⟩
     have KV:=aa Mb;clear H5 Mb c0 c1 c2 c3 c4 f0 f1 f2 f3 f4 k0 k1 k2 k3 k4 j0 j1 j2 j3 j4 EM fU km di fO Co kv;change Exit.inBlock _ _ _ _ (av w5 g1 (j*5) [x.gen,x.cap,x.used,x.closed,.slice B5 x.buf.length e5]);generalize av w5 g1 (j*5) [x.gen,x.cap,x.used,x.closed,.slice B5 x.buf.length e5]=w6 at *;go_wp2_with fail;go_roundw;case rel=>exact⟨j+1,ae,by go_num,KV⟩
     case measure=>simp[intOf];omega
   ·skip;obtain⟨dh,cW,-⟩:=af.aK HR.2.1;have cY:=af.lt HR.2.1;go_wp2_with fail;have dZ:=aR (vs:=[h.ay,.slice B1 n1 d1,.slice B2 n2 d2,.slice B3 n3 d3]) HR.2.1 rfl;have lS:=HR.2.2.1.far (q:=w.heap.size+1) ae HR.2.1 ah ah 0 [h.ay,.slice B1 n1 d1,.slice B2 n2 d2,.slice B3 n3 d3];have fy:=aw (B:=w.heap.size) (g:=w.heap.size+1) ae [h.ay,.slice B1 n1 d1,.slice B2 n2 d2,.slice B3 n3 d3] _ 0 HR.2.2.2;change bodyPost _ _ _ _ _ (av wr (w.heap.size+1) 0 [h.ay,.slice B1 n1 d1,.slice B2 n2 d2,.slice B3 n3 d3]);clear dh cW cY fU km;generalize av wr (w.heap.size+1) 0 [h.ay,.slice B1 n1 d1,.slice B2 n2 d2,.slice B3 n3 d3]=wz at *;have eO:=fun i=>af.cell dZ i;have mS:Y9 h w (.returned (.agg #[h.ay,.slice B1 n1 d1,.slice B2 n2 d2,.slice B3 n3 d3])) wz:=⟨B1,B2,B3,d1,d2,d3,by rw[<-N1.out, <-N2.out, <-N3.out],by rw[<-N1.out, <-N2.out, <-N3.out];exact⟨lS.ch.weak ae,lS.wt.weak ae,lS.dn.weak ae⟩,fy⟩
    refine bodyPost_ret (v:=.agg #[h.ay,.slice B1 n1 d1,.slice B2 n2 d2,.slice B3 n3 d3]) ?_ rfl mS;simp[results,results263,go_sem,eO]
end
theorem uJ.weak(H:uJ w base h A1 A2 A3 n1 n2 n3 m1 m2 m3)(hb:base'<=base):uJ w base' h A1 A2 A3 n1 n2 n3 m1 m2 m3:=⟨H.ch.weak hb,H.wt.weak hb,H.dn.weak hb⟩
theorem dx.ofO{t:Int}(H:uJ w base h B1 B2 B3 h.chans.length h.waits.length h.done.length d1 d2 d3)(hb:base<=w.heap.size):dx (w.alloc (.cells (mI c A n k t sq h.ay (.slice B1 h.chans.length d1) (.slice B2 h.waits.length d2) (.slice B3 h.done.length d3)) 287)) base w.heap.size c A n k t sq h B1 B2 B3 d1 d2 d3 :=
 have h2:=H.more (ak (aj w) (.cells (mI c A n k t sq h.ay (.slice B1 h.chans.length d1) (.slice B2 h.waits.length d2) (.slice B3 h.done.length d3)) 287))
 ⟨af.new _ _ _,h2.ch,h2.wt,h2.dn,hb⟩
section
variable(w:World) {c:Mo.bH} {A:Option Addr} {n k:Nat} {t sq:Int} {h:Mo.Hl}
theorem Fg(A1 A2 A3:Option Addr)(n1 n2 n3 m1 m2 m3:Nat)(nS:n1=h.chans.length)(sY:n2=h.waits.length)(ua:n3=h.done.length)(h1:oD w A1 h.chans)(h2:fX w A2 h.waits)(h3:cN w dA A3 h.done)(hb:RQ h)(hg1:c.ba<=4095)(q:Mo.Rq)(D:Option Addr)(ql qd:Nat)(DA:ql=q.cases.length)(hr:cN w bk D q.cases)(hq:Mo.bt q=true)(jk:h.done.length=h.waits.length)(r8:0<=t)(tQ:t<h.waits.length)(Br:0<=h.ay/\h.ay<=4294967295)(hdc:(Mo.ik c h t sq q).1.done.length=h.done.length) :
 Calls prog 251 #[.agg #[c.kind,c.threads,c.chans,c.cap,c.nodes,c.aJ,c.aB,c.tags,c.bn,c.ba,.slice A n k],.agg #[h.ay,.slice A1 n1 m1,.slice A2 n2 m2,.slice A3 n3 m3],t,sq,.agg #[q.kind,q.arg,q.value,q.dflt,.slice D ql qd]] w (Y9 (Mo.iA c h t sq q) w):=by
 have oa:=aa (fun wx (hx:Below w w wx)=>JR wx h A1 A2 A3 n1 n2 n3 m1 m2 m3 nS sY ua (by rw[nS];exact bm hb.chans ah) (by rw[sY];exact bm hb.waits ah) (by rw[ua];exact bm hb.done ah) (h1.jl b9 hx) (h2.jl aP hx) (h3.below hx) hb.buf hb.cases)
 have gu:=aa (fun wx {base g:Nat} {B1 B2 B3:Option Addr} {d1 d2 d3:Nat} (hx:Below w w wx) (HV:dx wx base g c A n k t sq h B1 B2 B3 d1 d2 d3)=>JQ wx HV hb hg1 q D ql qd DA (hr.below hx) hq jk r8 tQ Br)
 have HDC:=aa hdc;have pd:=aa jk;have gw:=aa tQ
 clear h1 h2 h3 hb DA hr hq jk nS sY ua hdc tQ
 have bG:Hid (Below w w ((((w.alloc (cr c A n k)).alloc (sB h.ay A1 n1 m1 A2 n2 m2 A3 n3 m3)).alloc (iG q D ql qd)).alloc yw)):=ak (ak (ak (ak (aj w) _) _) _) _
 have oh:Hid (af ((((w.alloc (cr c A n k)).alloc (sB h.ay A1 n1 m1 A2 n2 m2 A3 n3 m3)).alloc (iG q D ql qd)).alloc yw) w.heap.size 24 #[c.kind,c.threads,c.chans,c.cap,c.nodes,c.aJ,c.aB,c.tags,c.bn,c.ba,.slice A n k]):=(((af.new _ _ _).alloc _).alloc _).alloc _
 have HKh:Hid (af ((((w.alloc (cr c A n k)).alloc (sB h.ay A1 n1 m1 A2 n2 m2 A3 n3 m3)).alloc (iG q D ql qd)).alloc yw) (w.heap.size+1) 71 #[h.ay,.slice A1 n1 m1,.slice A2 n2 m2,.slice A3 n3 m3]):=((af.newAt _ _ _ aF).alloc _).alloc _
 have uV:Hid (af ((((w.alloc (cr c A n k)).alloc (sB h.ay A1 n1 m1 A2 n2 m2 A3 n3 m3)).alloc (iG q D ql qd)).alloc yw) (w.heap.size+2) 42 #[q.kind,q.arg,q.value,q.dflt,.slice D ql qd]):=(af.newAt _ _ _ aF).alloc _
 have pw:Hid (af ((((w.alloc (cr c A n k)).alloc (sB h.ay A1 n1 m1 A2 n2 m2 A3 n3 m3)).alloc (iG q D ql qd)).alloc yw) (w.heap.size+3) 71 #[oZ,oN,oN,oN]):=(af.newAt _ _ _ aF)
 have lR:((((w.alloc (cr c A n k)).alloc (sB h.ay A1 n1 m1 A2 n2 m2 A3 n3 m3)).alloc (iG q D ql qd)).alloc yw).heap.size=w.heap.size+4:=aF
 obtain⟨w0,hw0⟩:=aD ((((w.alloc (cr c A n k)).alloc (sB h.ay A1 n1 m1 A2 n2 m2 A3 n3 m3)).alloc (iG q D ql qd)).alloc yw)
 go_enter func251,ntmps251
 go_wp2_with fail
 simp only[Nat.add_assoc,Nat.reduceAdd]
 rw[<-hw0]at bG oh HKh uV pw lR ⊢
 clear hw0
 have Fh:=aa (fun wx (hx:Ext w0 wx)=>oa wx (ag bG hx.out))
 have hcc:=fun wx (hx:Ext w0 wx) i=>af.cell (oh.ag hx.out) i
 have hch:=fun wx (hx:Ext w0 wx) i=>af.cell (HKh.ag hx.out) i
 go_region_held3(Ext w0) (with_reducible(first|assumption|exact Ext.start _|exact Ext.alloc (by assumption) _)) (((with_reducible refine(Fh.out _ (by assumption)).mono ?_);rintro e w1 ⟨B1,B2,B3,d1,d2,d3,rfl,hO,hb1⟩;have jX:=Ext.to (by assumption) hb1;have HO:=aa hO;clear hO))
 have xV:=aa jX
 have hs1:=jX.out.size
 have Ai:Hid (dx (w1.alloc (.cells (mI c A n k t sq h.ay (.slice B1 h.chans.length d1) (.slice B2 h.waits.length d2) (.slice B3 h.done.length d3)) 287)) (w.heap.size+4) w1.heap.size c A n k t sq h B1 B2 B3 d1 d2 d3):=dx.ofO (HO.weak (by show w.heap.size+4<=w0.heap.size;omega)) ae
 have Du:=aa (Ext.alloc xV (.cells (mI c A n k t sq h.ay (.slice B1 h.chans.length d1) (.slice B2 h.waits.length d2) (.slice B3 h.done.length d3)) 287))
 change Exit.then _ _ _ _ (w1.alloc (.cells (mI c A n k t sq h.ay (.slice B1 h.chans.length d1) (.slice B2 h.waits.length d2) (.slice B3 h.done.length d3)) 287))
 have hg4:w.heap.size+4<=w1.heap.size:=ae
 clear hcc hch jX hb1 HO xV Fh hs1
 obtain⟨g,hg⟩:=aD w1.heap.size
 rw[<-hg]at Ai hg4 ⊢
 clear hg
 generalize w1.alloc (.cells (mI c A n k t sq h.ay (.slice B1 h.chans.length d1) (.slice B2 h.waits.length d2) (.slice B3 h.done.length d3)) 287)=w2 at *
 have dh:=fun i=>af.cell (uV.ag Du.out) i
 have cY:=(uV.ag Du.out).lt
 go_wp2_with fail
 refine(gu _ (ag bG Du.out) Ai).mono ?_
 rintro e w3 hE
 have he:e=_:=hE.1
 obtain⟨A9,m9,W8⟩:=hE.2.1
 have xF:=aa W8
 have bZ:=aa hE.2.2.1
 have abk:=aa (af.below (pw.ag Du.out) hE.2.2.1 ae)
 have iD:=aa (ag bG Du.out)
 obtain⟨pp,CD⟩:=aD (Mo.ik c h t sq q)
 rw[<-CD]at he xF HDC
 have HPQ:=aa CD
 clear CD hE W8 dh cY gu oa oh HKh uV pw Du Ai bG
 subst he
 obtain⟨tj,rfl⟩:∃tj:Nat,t=tj:=⟨t.toNat,ae⟩
 have Y7:tj<pp.1.done.length:=by have:=HDC.out;have:=pd.out;have:=gw.out;omega
 obtain⟨dl,jk⟩:=aD pp.1.done.length
 have HDE:=aa jk
 have i1:(0:Int)<=(tj:Int):=ae
 have i2:(tj:Int)<(dl:Int):=ae
 have i3:tj<dl:=ae
 obtain⟨g3,c',hv,hg0,hg1⟩:=xF.done.form (by intro e;rw[e]at Y7;simp at Y7)
 injection hv with e1 e2 e3
 subst e1 e3
 clear e2
 have hne:g≠g3:=fun e=>by subst e;exact ed xF.done xF.blk ah rfl
 have z8:g3≠g:=fun e=>hne e.symm
 obtain⟨y,hy⟩:∃y,pp.1.done[tj]?=some y:=⟨_,cD Y7⟩
 have k0:=aI.cells cm xF.done hy (j:=0) rfl
 have k1:=aI.cells cm xF.done hy (j:=1) rfl
 have k2:=aI.cells cm xF.done hy (j:=2) rfl
 have k3:=aI.cells cm xF.done hy (j:=3) rfl
 rw[Nat.add_zero]at k0
 have f0:=aI.frozen xF.done (tj*4)
 have f1:=aI.frozen xF.done (tj*4+1)
 have f2:=aI.frozen xF.done (tj*4+2)
 have f3:=aI.frozen xF.done (tj*4+3)
 clear hy Y7
 obtain⟨cQ,hfg,-⟩:=af.aK (dx.blk xF)
 have fV:=af.lt (dx.blk xF)
 unfold mI at cQ
 rw[<-jk]at cQ
 clear jk
 have aej:g<w3.heap.size:=fV
 go_wp2_with fail
 go_region
 clear k0 k1 k2 k3 f0 f1 f2 f3 cQ hfg fV
 have tC:rU w3 w3 (w.heap.size+4) g3 pp.1.done.length d3 pp.1.done:=⟨xF.done,fun _ _ _=>rfl,Below.refl _ _,aS _,hg0⟩
 have kY:=tC.put (i:=tj) (by rw[<-HDE.out];exact i3) ⟨sq,pp.2.cs,pp.2.code,pp.2.value⟩
 have hV5:=xF.told (L:=pp.1.done.set tj ⟨sq,pp.2.cs,pp.2.code,pp.2.value⟩) cK kY
 have hK5:=aW abk (b:=w.heap.size+3) (g:=g3) ae (dA ⟨sq,pp.2.cs,pp.2.code,pp.2.value⟩) (tj*4)
 have p9:Below (w.heap.size+4) w2 (av w3 g3 (tj*4) (dA ⟨sq,pp.2.cs,pp.2.code,pp.2.value⟩)):=aw hg0 _ _ _ bZ
 change Exit.then _ _ _ _ ((av w3 g3 (tj*4) (dA ⟨sq,pp.2.cs,pp.2.code,pp.2.value⟩)).alloc (pD sq pp.2.cs pp.2.code pp.2.value)).drew
 have wX:=(ak (aj (av w3 g3 (tj*4) (dA ⟨sq,pp.2.cs,pp.2.code,pp.2.value⟩))) (pD sq pp.2.cs pp.2.code pp.2.value)).drew
 have wI:=aa (hV5.more wX)
 have xD:=aa (hK5.ag wX)
 have iW:=aa ((iD.trans ((p9.mono (Nat.le_add_right _ 4)).trans (wX.mono (by rw[bw];omega)))))
 clear tC kY hV5 hK5 p9 wX abk bZ xF
 generalize((av w3 g3 (tj*4) (dA ⟨sq,pp.2.cs,pp.2.code,pp.2.value⟩)).alloc (pD sq pp.2.cs pp.2.code pp.2.value)).drew=w5 at *
 obtain⟨dh,cW,-⟩:=af.aK xD
 have cY:=af.lt xD
 obtain⟨cQ,hfg,-⟩:=af.aK (dx.blk wI)
 have fV:=af.lt (dx.blk wI)
 unfold mI at cQ
 have Sr:(pp.1.done.set tj ⟨sq,pp.2.cs,pp.2.code,pp.2.value⟩).length=pp.1.done.length:=cK
 have HG:Hid (Mo.iA c h tj sq q={pp.1 with done:=pp.1.done.set tj ⟨sq,pp.2.cs,pp.2.code,pp.2.value⟩}):=by unfold Hid Mo.iA Mo.iA.DV;rw[<-HPQ.out];dsimp only;rw[ai ae,fF]
 rw[Sr]at cQ
 clear hfg
 go_wp2_with fail
 have kv:uJ w5 (w.heap.size+4) {pp.1 with done:=pp.1.done.set tj ⟨sq,pp.2.cs,pp.2.code,pp.2.value⟩} B1 A9 g3 pp.1.chans.length pp.1.waits.length pp.1.done.length d1 m9 d3:=⟨wI.chans,wI.waits,by have:=wI.done;rw[Sr]at this;exact this⟩
 have dZ:=aR (vs:=[pp.1.ay,.slice B1 pp.1.chans.length d1,.slice A9 pp.1.waits.length m9,.slice g3 pp.1.done.length d3]) xD rfl
 have lS:=kv.far (q:=w.heap.size+3) ae xD ah ah 0 [pp.1.ay,.slice B1 pp.1.chans.length d1,.slice A9 pp.1.waits.length m9,.slice g3 pp.1.done.length d3]
 have fy:=aw (B:=w.heap.size) (g:=w.heap.size+3) ae [pp.1.ay,.slice B1 pp.1.chans.length d1,.slice A9 pp.1.waits.length m9,.slice g3 pp.1.done.length d3] _ 0 iW
 change bodyPost _ _ _ _ _ (av w5 (w.heap.size+3) 0 [pp.1.ay,.slice B1 pp.1.chans.length d1,.slice A9 pp.1.waits.length m9,.slice g3 pp.1.done.length d3])
 clear dh cW cY cQ fV
 generalize av w5 (w.heap.size+3) 0 [pp.1.ay,.slice B1 pp.1.chans.length d1,.slice A9 pp.1.waits.length m9,.slice g3 pp.1.done.length d3]=wz at *
 have eO:=fun i=>af.cell dZ i
 have mS:Y9 (Mo.iA c h tj sq q) w (.returned (.agg #[pp.1.ay,.slice B1 pp.1.chans.length d1,.slice A9 pp.1.waits.length m9,.slice g3 pp.1.done.length d3])) wz:=by rw[HG.out];refine⟨B1,A9,some ⟨g3,0,none⟩,d1,m9,d3,by dsimp only;rw[Sr],?_,fy⟩;dsimp only;rw[Sr];exact lS.weak ae
 refine bodyPost_ret (v:=.agg #[pp.1.ay,.slice B1 pp.1.chans.length d1,.slice A9 pp.1.waits.length m9,.slice g3 pp.1.done.length d3]) ?_ rfl mS
 simp[results,results251,go_sem,eO]
end
theorem JS{f:α->List Value}(hf:∀c,(f c).length=m)(hm:0<m)(x:α)(n:Nat):(madeCells (f x).toArray (n*m)).toList=(List.replicate n x).flatMap f:=by
 have Uq:((List.replicate n x).flatMap f).length=n*m:=by rw[mJ hf,gf]
 have Lq:(madeCells (f x).toArray (n*m)).toList.length=n*m:=by rw[Array.length_toList,size_madeCells]
 apply List.ext_getElem?;intro i;by_cases hi:i<n*m
 ·have e:i=(i/m)*m+i%m:=(Nat.div_add_mod' i m).symm;have hd:i/m<n:=Nat.div_lt_of_lt_mul (by rw[Nat.mul_comm];exact hi);have abl:=Nat.mod_lt i hm;have h1:=qX hf (List.replicate n x) (i/m) x (i%m) (by rw[List.getElem?_replicate,au hd]) abl;rw[<-e]at h1;rw[h1];unfold madeCells;rw[Array.toList_map,List.getElem?_map,Array.toList_range,List.getElem?_range hi,Option.map_some,jx,hf];have h2:i%m<(f x).length:=by rw[hf];exact abl
  rw[cD h2,getElem!_pos (f x).toArray (i%m) (by simpa using h2)];simp
 ·rw[List.getElem?_eq_none ae,List.getElem?_eq_none ae]
theorem pL{f:α->List Value}(hf:∀c,(f c).length=m)(hm:0<m)(x:α)(n:Nat)(hn:n<=100000)(h:af w g e (madeCells (f x).toArray (n*m)))(hb:base<=g):aI w base e m f (.slice g n n) (List.replicate n x):=by unfold aI;rw[gf, <-JS hf hm];exact⟨by rw[Array.length_toList,size_madeCells],.inr ⟨g,n,madeCells (f x).toArray (n*m),rfl,hb,h,aS _,by unfold maxLen;omega,size_madeCells _ _,List.take_of_length_le (by rw[Array.length_toList,size_madeCells];exact aS _)⟩⟩
theorem uJ.ac6(H:uJ w base h g1 A2 A3 n1 n2 n3 m1 m2 m3)(hi:i<h.chans.length)(y:Mo.Ch)(hd:y.buf.length<=d)(hr:bC w .i64 B y.buf)(hB:∀b,B=some b->y.buf≠[]->Ty w 3 b.block) :
 uJ (av w g1 (i*5) [y.gen,y.cap,y.used,y.closed,.slice B y.buf.length d]) base {h with chans:=h.chans.set i y} g1 A2 A3 n1 n2 n3 m1 m2 m3:=by
 obtain⟨ys,hg,hgb⟩:=H.ch.ty
 have mi:¬gJ w g1:=gJ.not hg ah ah
 refine⟨?_,?_,?_⟩
 ·exact(H.ch.Jf b9 hi _ rfl (by intro u hu;simp at hu;rcases hu with rfl|rfl|rfl|rfl|rfl<;>rfl) mi (y:=y) ⟨B,d,rfl,hd,hr,fun ad ha hne=>.inl (hB ad ha hne)⟩).mono b9 (fun b hb=>eT _ _ _ hb)
 ·exact abg
 ·exact bR (fun b hb he=>by subst he;exact ed H.dn hg ah hb.symm) _ _ _ _ H.dn
def chR:Row 5:=⟨[oZ,oZ,false,false,oN],rfl,by intro u hu;simp at hu;rcases hu with rfl|rfl|rfl|rfl|rfl<;>rfl⟩
def wtR:Row 4:=⟨[false,oZ,oZ,oN],rfl,by intro u hu;simp at hu;rcases hu with rfl|rfl|rfl|rfl<;>rfl⟩
def JT(c:Mo.bH)(n j:Nat):List Mo.Ch:=(List.range n).map fun i=>if i<j then(match c.start[i]? with|some k=>⟨1,k,true,false,[]⟩|none=>Mo.Hy)else Mo.Hy
theorem uW(c:Mo.bH)(n j:Nat):(JT c n j).length=n:=by unfold JT;simp
theorem abm(c:Mo.bH)(n:Nat):JT c n 0=List.replicate n Mo.Hy:=by
 apply List.ext_getElem?;intro i;unfold JT;rw[List.getElem?_map,List.getElem?_replicate];by_cases h:i<n
 ·rw[List.getElem?_range h,au h];rfl
 ·rw[List.getElem?_eq_none (by simp;omega),ai h];rfl
theorem Og{k:Int}(hk:c.start[j]?=some k)(hj:j<n):JT c n (j+1)=(JT c n j).set j ⟨1,k,true,false,[]⟩:=by
 apply List.ext_getElem?;intro i;unfold JT;rw[List.getElem?_map,List.getElem?_set,List.getElem?_map,eK,List.length_range];by_cases e:j=i
 ·subst e;rw[au rfl,au hj,List.getElem?_range hj,Option.map_some,au (Nat.lt_succ_self _),hk]
 ·rw[ai e];by_cases h:i<n
  ·rw[List.getElem?_range h,Option.map_some,Option.map_some];by_cases h2:i<j
   ·rw[au ae,au h2]
   ·rw[ai ae,ai h2]
  ·rw[List.getElem?_eq_none (by simp;omega)];rfl
theorem Ss:JT c n c.start.length=(List.range n).map fun i=>match c.start[i]? with|some k=>⟨1,k,true,false,[]⟩|none=>Mo.Hy:=by
 unfold JT;refine List.map_congr_left fun i _=>?_;by_cases h:i<c.start.length
 ·rw[au h]
 ·rw[ai h,List.getElem?_eq_none ae]
theorem af.dr{t:TypeId}{cs:Array Value}(h:af w g t cs):af w.drew g t cs:=h
theorem Ext.Oh(w:World)(o o' o2:Obj):Ext w (((w.alloc o).alloc o').alloc o2).drew:=(ak (ak (ak (aj w) o) o') o2).drew
theorem Ext.Oi(w:World)(o o' o2 o3:Obj):Ext w ((((w.alloc o).alloc o').alloc o2).alloc o3).drew:=(ak (ak (ak (ak (aj w) o) o') o2) o3).drew
theorem run_mk(w:World)(t e:TypeId){z:Value}{sz by_:Nat}(ht:prog.underlying t=some (.slice e))(hi:(prog.info? e).map (fun i=>(i.zero,i.size,i.bytes))=some (some z,sz,by_))(L:Int)(h0:0<=L)(h1:L<=100000)(hb:by_<=1000) :
 (Instr.makeSlice t L L).run prog w=.ok (.slice w.heap.size L.toNat L.toNat) (w.alloc (.cells (madeCells z.cells (L.toNat*sz)) e)):=by
 obtain⟨i,iY,hz0,hz1,hz2⟩:=info_parts hi
 subst hz1
 exact run_make w t e i z ht iY hz0 .i64 .i64 L L h0 (bW _) (by
  have:(i.bytes:Int)*L<=1000*100000:=Int.mul_le_mul ae h1 h0 ah;omega) ae
def StC(w w1:World)(c:Mo.bH)(s5:Value)(wx:World):Prop:=∃g1 g2 g3 p,s5=.pointer (some ⟨p,0,none⟩)/\af wx p 71 #[oZ,.slice (some ⟨g1,0,none⟩) c.chans.toNat c.chans.toNat,.slice (some ⟨g2,0,none⟩) c.threads.toNat c.threads.toNat,.slice (some ⟨g3,0,none⟩) c.threads.toNat c.threads.toNat] /\
 w.heap.size+1<g1/\w.heap.size+1<g2/\w.heap.size+1<g3/\w.heap.size+1<p/\(p<g1\/g1<p) /\
 af wx g1 83 (madeCells (dR chR).toArray (c.chans.toNat*5))/\af wx g2 79 (madeCells (dR wtR).toArray (c.threads.toNat*4))/\af wx g3 48 (madeCells (dA Mo.dC).toArray (c.threads.toNat*4)) /\
 Ext w1 wx
section
variable(w:World)
theorem Fi(hc:Mo.aN c=true)(hk:c.kind=3)(hn:n=c.start.length)(hr:bC w .i64 A c.start) :
 Calls prog 145 #[.agg #[c.kind,c.threads,c.chans,c.cap,c.nodes,c.aJ,c.aB,c.tags,c.bn,c.ba,.slice A n k]] w (Y9 (Mo.fW c) w):=by
 have hp:=Mo.aG hc
 have hs:(c.start.length:Int)<=c.chans:=by unfold Mo.aN Mo.mM at hc;simp only[dI]at hc;have h3:=hc.2;rw[ai (by rw[hk];decide),au hk]at h3;simp only[dI,cU]at h3;exact h3.1.2
 have b1:0<=c.chans:=hp.2.2.2.2.2.2.2.1
 have b2:c.chans<=8:=hp.2.2.2.2.2.2.2.2
 have b3:1<=c.threads:=hp.1.1
 have b4:c.threads<=64:=hp.1.2
 have a1:¬8<c.chans:=ae
 have a2:¬c.chans<0:=ae
 have a3:¬64<c.threads:=ae
 have a4:¬c.threads<0:=ae
 have HN:=aa hn;have HS:=aa hs;have HR:=aa hr
 clear hp hs hn hr hc hk
 have bG:Hid (Below w w ((w.alloc (cr c A n k)).alloc yw)):=ak (ak (aj w) _) _
 have oh:Hid (af ((w.alloc (cr c A n k)).alloc yw) w.heap.size 24 #[c.kind,c.threads,c.chans,c.cap,c.nodes,c.aJ,c.aB,c.tags,c.bn,c.ba,.slice A n k]):=(af.new _ _ _).alloc _
 have pw:Hid (af ((w.alloc (cr c A n k)).alloc yw) (w.heap.size+1) 71 #[oZ,oN,oN,oN]):=(af.newAt _ _ _ aF)
 have lR:((w.alloc (cr c A n k)).alloc yw).heap.size=w.heap.size+1+1:=aF
 obtain⟨w0,hw0⟩:=aD ((w.alloc (cr c A n k)).alloc yw)
 go_enter func145,ntmps145
 go_wp2_with fail
 rw[<-hw0]at bG oh pw lR ⊢
 have HW0:=aa hw0
 clear hw0
 obtain⟨hcc,-,gH⟩:=af.aK oh
 go_quiet(fail)
 generalize hw:World.drewN w0 _=w1
 have xV:Hid (Ext w0 w1):=by rw[<-hw];exact bO (aj w0) _
 clear hw hcc gH
 go_wp2_with fail
 go_cut[5] (fun s5 wx=>StC w w1 c s5 wx)
 case first =>
  have hs1:=xV.out.size;have m1:=fun wx=>run_mk wx 67 83 (z:=.agg #[oZ,oZ,false,false,oN]) (sz:=5) (by_:=48) rfl qm c.chans b1 ae ah;have m2:=fun wx=>run_mk wx 68 79 (z:=.agg #[false,oZ,oZ,oN]) (sz:=4) (by_:=48) rfl qo c.threads ae ae ah;have m3:=fun wx=>run_mk wx 69 48 (z:=.agg #[oZ,oZ,oZ,oZ]) (sz:=4) (by_:=32) rfl sH c.threads ae ae ah;have e1:(Value.agg #[oZ,oZ,false,false,oN]).cells=(dR chR).toArray:=rfl;have e2:(Value.agg #[false,oZ,oZ,oN]).cells=(dR wtR).toArray:=rfl;have e3:(Value.agg #[oZ,oZ,oZ,oZ]).cells=(dA Mo.dC).toArray:=rfl;rw[e1]at m1;rw[e2]at m2;rw[e3]at m3;clear e1 e2 e3;generalize ud:madeCells (dR chR).toArray (c.chans.toNat*5)=M1 at m1;generalize sJ:madeCells (dR wtR).toArray (c.threads.toNat*4)=M2 at m2;generalize nU:madeCells (dA Mo.dC).toArray (c.threads.toNat*4)=M3 at m3;have ud:=aa ud;have sJ:=aa sJ;have nU:=aa nU;go_region_held3(Ext w1) (with_reducible(repeat(first|assumption|exact Ext.start _|exact Ext.fZ _ _|exact Ext.Aj _ _ _|exact Ext.Oh _ _ _ _|exact Ext.Oi _ _ _ _ _|refine Ext.alloc ?_ _|refine Ext.set ?_ (by simp;try omega)))) (fail);all_goals
   go_wp2_with fail;go_meet;apply Exists.intro;apply Exists.intro;apply Exists.intro;apply Exists.intro;refine⟨rfl,?_,?_⟩
   ·repeat(with_reducible first|exact af.newAt _ _ _ aF|refine af.dr ?_|refine af.alloc ?_ _)
   refine⟨ae,ae,ae,ae,ae,?_,?_,?_,bE⟩
   ·rw[ud.out];repeat(with_reducible first|exact af.newAt _ _ _ aF|refine af.dr ?_|refine af.alloc ?_ _)
   ·rw[sJ.out];repeat(with_reducible first|exact af.newAt _ _ _ aF|refine af.dr ?_|refine af.alloc ?_ _)
   ·rw[nU.out];repeat(with_reducible first|exact af.newAt _ _ _ aF|refine af.dr ?_|refine af.alloc ?_ _)
 case rest =>
  obtain⟨g1,g2,g3,p,rfl,hP,hg1,hg2,hg3,hp,hpg,MA,AL,wH,hX⟩:=hcut;have HX:=aa (xV.to hX.out);have HE:=aa (ag bG HX.out);have hO:uJ wc (w.heap.size+2) ⟨0,JT c c.chans.toNat 0,List.replicate c.threads.toNat Mo.gK,List.replicate c.threads.toNat Mo.dC⟩ g1 g2 g3 c.chans.toNat c.threads.toNat c.threads.toNat c.chans.toNat c.threads.toNat c.threads.toNat:=by
   refine⟨?_,?_,pL cm ah Mo.dC _ ae wH ae⟩
   ·rw[abm];refine⟨List.replicate c.chans.toNat chR,aF,pL bQ ah chR _ ae MA ae,fun i r x hr hx=>?_⟩;rw[List.eq_of_mem_replicate (dO hr),List.eq_of_mem_replicate (dO hx)];exact⟨none,0,rfl,aS _,bC.nil _ _ _,fun ad h=>by cases h⟩
   ·refine⟨List.replicate c.threads.toNat wtR,aF,pL bQ ah wtR _ ae AL ae,fun i r x hr hx=>?_⟩;rw[List.eq_of_mem_replicate (dO hr),List.eq_of_mem_replicate (dO hx)];exact⟨none,0,rfl,aS _,cN.nil _ _ _,fun ad h=>by cases h⟩
  have HO:=aa hO;have HP:=aa hP;have abn:=aa (pw.ag HX.out);have abo:=aa (oh.ag HX.out);clear hO hP MA AL wH hX xV pw oh;obtain⟨hcc,-,gH⟩:=af.aK abo;go_wp2_with fail;clear hcc gH;have H0:=aa (show(c.start.length:Int)<=c.chans from HS.out);go_loopw[26] (fun i wr=>∃j:Nat,j<=n/\i=j/\Hid (uJ wr (w.heap.size+2) ⟨0,JT c c.chans.toNat j,List.replicate c.threads.toNat Mo.gK,List.replicate c.threads.toNat Mo.dC⟩ (some ⟨g1,0,none⟩) (some ⟨g2,0,none⟩) (some ⟨g3,0,none⟩) c.chans.toNat c.threads.toNat c.threads.toNat c.chans.toNat c.threads.toNat c.threads.toNat)/\Hid (af wr p 71 #[oZ,.slice (some ⟨g1,0,none⟩) c.chans.toNat c.chans.toNat,.slice (some ⟨g2,0,none⟩) c.threads.toNat c.threads.toNat,.slice (some ⟨g3,0,none⟩) c.threads.toNat c.threads.toNat])/\Hid (af wr (w.heap.size+1) 71 #[oZ,oN,oN,oN])/\Hid (Below w w wr)) (fun i _=>n-(intOf i).toNat);case atStart=>exact⟨0,aY _,rfl,HO,HP,abn,HE⟩
  case round =>
   clear HO HP abn abo HE HX;obtain⟨j,hj,rfl,HO,HP,HK,HE⟩:=hrel;obtain⟨aA,-,aU⟩:=af.aK HP;by_cases hlt:j<n
   ·obtain⟨ad,z,hA,hz,cz⟩:=bC.at_ (HR.below HE) (i:=j) (by rw[<-HN.out];exact hlt);subst hA;have hjc:j<c.chans.toNat:=by have:=H0.out;have:=HN.out;omega
    have i2:(j:Int)<c.chans:=ae;obtain⟨y,hy⟩:∃y,(JT c c.chans.toNat j)[j]?=some y:=⟨_,cD (by rw[uW];exact hjc)⟩
    obtain⟨r,hP,ju,hcell⟩:=HO.ch.at_ hy;obtain⟨D,dd,rfl,hdd,hRd⟩:=hP;have c0:=hcell 0 _ rfl;rw[Nat.add_zero]at c0;have c1:=hcell 1 _ rfl;have c2:=hcell 2 _ rfl;have c3:=hcell 3 _ rfl;have c4:=hcell 4 _ rfl;have f0:=HO.ch.ck (j*5);have f1:=HO.ch.ck (j*5+1);have f2:=HO.ch.ck (j*5+2);have f3:=HO.ch.ck (j*5+3);have f4:=HO.ch.ck (j*5+4);have HZ:=aa hz;clear hcell ju hdd hRd hy hz;go_wp2_with fail;have vV:=HO.ac6 (i:=j) (by rw[uW];exact hjc) ⟨1,z,true,false,[]⟩ (B:=none) (d:=0) (aS _) (bC.nil _ _ _) (fun b hb=>by cases hb);dsimp only at vV;rw[<-Og HZ.out hjc]at vV;have eu:=aa vV;have xG:=aa (aW HP (b:=p) (g:=g1) ae [.int .i64 1,z,true,false,oN] (j*5));have jv:=aa (aW HK (b:=w.heap.size+1) (g:=g1) ae [.int .i64 1,z,true,false,oN] (j*5));have iD:=aa (aw (B:=w.heap.size) (g:=g1) ae [.int .i64 1,z,true,false,oN] _ (j*5) HE);go_roundw;case rel=>exact⟨j+1,ae,by go_num,eu,xG,jv,iD⟩
    case measure=>simp[intOf];omega
   ·have Dv:j=c.start.length:=by have:=HN.out;omega
    subst Dv;obtain⟨dh,cW,cY⟩:=af.aK HK;go_wp2_with fail;have dZ:=aR (vs:=[oZ,.slice g1 c.chans.toNat c.chans.toNat,.slice g2 c.threads.toNat c.threads.toNat,.slice g3 c.threads.toNat c.threads.toNat]) HK rfl;have lS:=HO.far (q:=w.heap.size+1) ae HK ah ah 0 [oZ,.slice g1 c.chans.toNat c.chans.toNat,.slice g2 c.threads.toNat c.threads.toNat,.slice g3 c.threads.toNat c.threads.toNat];have fy:=aw (B:=w.heap.size) (g:=w.heap.size+1) ae [oZ,.slice g1 c.chans.toNat c.chans.toNat,.slice g2 c.threads.toNat c.threads.toNat,.slice g3 c.threads.toNat c.threads.toNat] _ 0 HE;change bodyPost _ _ _ _ _ (av wr (w.heap.size+1) 0 [oZ,.slice g1 c.chans.toNat c.chans.toNat,.slice g2 c.threads.toNat c.threads.toNat,.slice g3 c.threads.toNat c.threads.toNat]);clear dh cW cY aA aU;generalize av wr (w.heap.size+1) 0 [oZ,.slice g1 c.chans.toNat c.chans.toNat,.slice g2 c.threads.toNat c.threads.toNat,.slice g3 c.threads.toNat c.threads.toNat]=wz at *;have eO:=fun i=>af.cell dZ i;have hst:Mo.fW c=⟨0,JT c c.chans.toNat c.start.length,List.replicate c.threads.toNat Mo.gK,List.replicate c.threads.toNat Mo.dC⟩:=by rw[Ss];rfl
    have mS:Y9 (Mo.fW c) w (.returned (.agg #[oZ,.slice g1 c.chans.toNat c.chans.toNat,.slice g2 c.threads.toNat c.threads.toNat,.slice g3 c.threads.toNat c.threads.toNat])) wz:=by rw[hst];refine⟨some ⟨g1,0,none⟩,some ⟨g2,0,none⟩,some ⟨g3,0,none⟩,c.chans.toNat,c.threads.toNat,c.threads.toNat,by dsimp only;rw[uW,gf,gf],?_,fy⟩;dsimp only;rw[uW,gf,gf];exact lS.weak ae
    refine bodyPost_ret (v:=.agg #[oZ,.slice g1 c.chans.toNat c.chans.toNat,.slice g2 c.threads.toNat c.threads.toNat,.slice g3 c.threads.toNat c.threads.toNat]) ?_ rfl mS;simp[results,results145,go_sem,eO]
end
theorem px{α:Type}(f:List Int->α)(m:Nat):∀(j:Nat) (l:List Int),Mo.pieces f m (j+1) l=Mo.pieces f m j l++[f (l.drop (m*j))]
 |0,l=>by simp[Mo.pieces]
 |j+1,l=>by rw[Mo.pieces,px f m j (l.drop m),Mo.pieces,List.cons_append,List.drop_drop,Nat.mul_succ,Nat.add_comm m]
theorem jR{α:Type}(f:List Int->α)(m:Nat):∀(j:Nat) (l:List Int),(Mo.pieces f m j l).length=j
 |0,_=>rfl
 |j+1,l=>by rw[Mo.pieces,List.length_cons,jR f m j]
structure tH (c:Mo.bH) (A:Option Addr) (n k:Nat) (w wr:World) (l1:List Int) (tk:Int) (v1 v2 v3:Value) (xs:List Mo.Ch) (ys:List Mo.Wt) (zs:List Mo.Rs) (gr gh:Nat):Prop where
 kc:af wr w.heap.size 24 #[c.kind,c.threads,c.chans,c.cap,c.nodes,c.aJ,c.aB,c.tags,c.bn,c.ba,.slice A n k]
 kr:af wr (w.heap.size+1) 71 #[oZ,oN,oN,oN]
 rd:iO wr (fun b=>b<w.heap.size) gr l1
 kh:af wr gh 71 #[tk,v1,v2,v3]
 ch:MX wr (gr+1) v1 xs
 wt:ko wr (gr+1) v2 ys
 dn:aI wr (gr+1) 48 4 dA v3 zs
 ext:Below w w wr
 far:gr<gh
 rg:w.heap.size+1<gr
theorem pM{P:qN α}{xs:List α}(gd:Good P)(h:aH e m P w base (gJ w) v xs)(hs:∀b,gJ w b\/v.ownBlock=some b->w'.heap[b]?=w.heap[b]?):aH e m P w' base (gJ w') v xs :=
 (aH.move gd h (fun b hb=>hs b (.inl hb)) (fun g hg=>hs g (.inr hg))).mono gd fun b hb=>by
  have:=hs b (.inl hb)
  rcases hb with⟨ys,fr,h1⟩|⟨ys,fr,h1⟩
  ·exact .inl ⟨ys,fr,this.trans h1⟩
  ·exact .inr ⟨ys,fr,this.trans h1⟩
theorem Xz{S:Nat->Prop}{l:List Int}(h:iO w S g l):∃ys,af w g 280 ys:=by obtain⟨A,c,h1,_⟩:=h;exact⟨_,h1⟩
section
variable{c:Mo.bH} {A:Option Addr} {n k:Nat} {w wr w2:World} {l1 l2:List Int} {tk:Int} {v1 v2 v3:Value} {xs:List Mo.Ch} {ys:List Mo.Wt} {zs:List Mo.Rs} {gr gh:Nat}
theorem tH.by_(H:tH c A n k w wr l1 tk v1 v2 v3 xs ys zs gr gh)(hr:iO w2 (fun b=>b<w.heap.size) gr l2)(hs:∀b,b<wr.heap.size->b≠gr->w2.heap[b]?=wr.heap[b]?)(he:Below w w w2):tH c A n k w w2 l2 tk v1 v2 v3 xs ys zs gr gh:=by
 obtain⟨yr,hy⟩:=Xz H.rd;have mi:∀b,gJ wr b->b≠gr:=fun b hb e=>by subst e;exact gJ.not hy ah ah hb
 refine⟨(hs _ H.kc.lt (by have:=H.rg;omega)).trans H.kc,(hs _ H.kr.lt (by have:=H.rg;omega)).trans H.kr,hr,(hs _ H.kh.lt (by have:=H.far;omega)).trans H.kh,?_,?_,?_,he,H.far,H.rg⟩
 ·exact pM b9 H.ch fun b hb=>hb.elim (fun h=>hs b h.lt (mi b h)) (fun h=>hs b (aH.lt H.ch h).2 (by have:=(aH.lt H.ch h).1;omega))
 ·exact pM aP H.wt fun b hb=>hb.elim (fun h=>hs b h.lt (mi b h)) (fun h=>hs b (aH.lt H.wt h).2 (by have:=(aH.lt H.wt h).1;omega))
 ·exact fj H.dn fun b hb=>hs b (aX H.dn hb).2 (by have:=(aX H.dn hb).1;omega)
theorem tH.to(H:tH c A n k w wr l1 tk v1 v2 v3 xs ys zs gr gh)(hr:dK wr (fun b=>b<w.heap.size) gr l2 w2):tH c A n k w w2 l2 tk v1 v2 v3 xs ys zs gr gh:=H.by_ hr.1 hr.2.1 (H.ext.trans (hr.2.2.mono (by have:=H.rg;omega)))
theorem tH.more(H:tH c A n k w wr l1 tk v1 v2 v3 xs ys zs gr gh)(hb:Below wr wr w2):tH c A n k w w2 l1 tk v1 v2 v3 xs ys zs gr gh:=H.by_ (H.rd.ext (fun b hb=>by have:=H.kc.lt;omega) hb) (fun b hb' _=>hb.block b hb') (ag H.ext hb)
end
def rwC(x:Mo.Ch)(B:Option Addr)(d:Nat):Row 5:=⟨[x.gen,x.cap,x.used,x.closed,.slice B x.buf.length d],rfl,by intro u hu;simp at hu;rcases hu with rfl|rfl|rfl|rfl|rfl<;>rfl⟩
def rwW(x:Mo.Wt)(B:Option Addr)(d:Nat):Row 4:=⟨[x.on,x.ay,x.seq,.slice B x.cases.length d],rfl,by intro u hu;simp at hu;rcases hu with rfl|rfl|rfl|rfl<;>rfl⟩
section
variable{c:Mo.bH} {A:Option Addr} {n k:Nat} {w wr w2:World} {l1 l2:List Int} {tk:Int} {v1 v2 v3:Value} {xs:List Mo.Ch} {ys:List Mo.Wt} {zs:List Mo.Rs} {gr gh:Nat} {w4:World} {v4:Value}
theorem tH.grown(H:tH c A n k w wr l1 tk v1 v2 v3 xs ys zs gr gh){row:Value}(hrow:∀b,row.ownBlock=some b->gr+1<=b/\∃ys fr,wr.heap[b]?=some (.cells ys e fr))(o:Obj)(hg:(wr.alloc o).grownBy w4 row.ownBlock)(h1:e≠3)(h2:e≠110)(h3:e≠71)(i:Nat)(u:Value) :
 (∀b,b<wr.heap.size->b≠gh->row.ownBlock≠some b->(w4.setCell ⟨gh,i,none⟩ u).heap[b]?=wr.heap[b]?)/\Below w w (w4.setCell ⟨gh,i,none⟩ u)/\af w4 gh 71 #[tk,v1,v2,v3]/\(∀b,gJ wr b->b≠gh/\row.ownBlock≠some b):=by
 have hsm:∀b,b<wr.heap.size->row.ownBlock≠some b->w4.heap[b]?=wr.heap[b]?:=fun b hb hne=>(hg.block b (by simp;omega) (fun he=>hne he.symm)).trans ((ak (aj wr) o).block b hb)
 have WX:row.ownBlock≠some gh:=fun he=>by
  obtain⟨_,ys,fr,hy⟩:=hrow gh he
  have:=H.kh
  unfold af at this
  rw[this]at hy
  injection hy with hy
  injection hy with _ hy
  exact h3 hy.symm
 refine⟨fun b hb hne hr=>(dp _ _ _ _ hne).trans (hsm b hb hr),?_,(hsm gh H.kh.lt WX).trans H.kh,fun b hb=>⟨fun e=>by subst e;exact gJ.not H.kh ah ah hb,fun he=>?_⟩⟩
 ·refine Below.setCell ?_ (p:=⟨gh,i,none⟩) (by have:=H.far;have:=H.rg;show w.heap.size<=gh;omega) u;exact Below.grown (ak H.ext o) hg (by have:=H.ext.size;simp;omega) (fun b hb=>by have:=(hrow b hb).1;have:=H.rg;omega)
 ·obtain⟨_,ys,fr,hy⟩:=hrow b he;exact gJ.not hy h1 h2 hb
theorem tH.keep(H:tH c A n k w wr l1 tk v1 v2 v3 xs ys zs gr gh)(hs:∀b,b<wr.heap.size->b≠gh->v4.ownBlock≠some b->w2.heap[b]?=wr.heap[b]?)(hv:∀b,v4.ownBlock=some b->gr+1<=b) :
 af w2 w.heap.size 24 #[c.kind,c.threads,c.chans,c.cap,c.nodes,c.aJ,c.aB,c.tags,c.bn,c.ba,.slice A n k]/\af w2 (w.heap.size+1) 71 #[oZ,oN,oN,oN]/\iO w2 (fun b=>b<w.heap.size) gr l1:=by
 have hf:=H.far
 have hg:=H.rg
 have hlt:=H.kh.lt
 have hq:∀b,b<=gr->w2.heap[b]?=wr.heap[b]?:=fun b hb=>hs b ae ae (fun h=>by have:=hv b h;omega)
 obtain⟨B,d,h1,h2,h3⟩:=H.rd
 refine⟨(hq _ ae).trans H.kc,(hq _ ae).trans H.kr,B,d,(hq _ ae).trans h1,h2,h3.same fun b hb=>hq b ae⟩
theorem dV{w:World}{n:Nat}{xs:List Value}(h:w.ownsRow base e m v n xs):∀b,v.ownBlock=some b->∃ys fr,w.heap[b]?=some (.cells ys e fr):=fun b hb=>by
 rcases h.2 with⟨h',_⟩|⟨g',cap,cur,hv,_,hh,_⟩
 ·subst h';cases hb
 ·subst hv;injection hb with hb;subst hb;exact⟨cur,_,hh⟩
theorem tH.ac7(H:tH c A n k w wr l1 tk v1 v2 v3 xs ys zs gr gh){rows:List (Row 5)}(r1:rows.length=xs.length)(r2:aI wr (gr+1) 83 5 dR v1 rows)(r3:∀(i:Nat) (r:Row 5) (x:Mo.Ch),rows[i]?=some r->xs[i]?=some x->TV wr (gJ wr) r.val x){x:Mo.Ch}(hd:x.buf.length<=d)(hx:cA wr (fun b=>q<=b/\Ty wr 3 b) .i64 B x.buf){o:Obj}(ho:aI w4 (gr+1) 83 5 dR v4 (rows++[rwC x B d]))(hg:(wr.alloc o).grownBy w4 v1.ownBlock):tH c A n k w (w4.setCell ⟨gh,1,none⟩ v4) l1 tk v4 v2 v3 (xs++[x]) ys zs gr gh:=by
 obtain⟨g1,g2,g3,g4⟩:=H.grown (row:=v1) (fun b hb=>⟨(aX r2 hb).1,dV r2 b hb⟩) o hg ah ah ah 1 v4
 obtain⟨k1,k2,k3⟩:=H.keep (v4:=v1) g1 (fun b hb=>(aX r2 hb).1)
 have mi:Sm (gJ wr) wr (w4.setCell ⟨gh,1,none⟩ v4):=fun b hb=>g1 b hb.lt (g4 b hb).1 (g4 b hb).2
 have Oj:∀b,gJ wr b->gJ (w4.setCell ⟨gh,1,none⟩ v4) b:=fun b hb=>by exact UE
 refine⟨k1,k2,k3,g3.bb 1 _,?_,?_,?_,g2,H.far,H.rg⟩
 ·refine(aH.app b9 r1 r3 mi (bB ho g3 ah 1 v4) (x:=x) ⟨B,d,rfl,hd,?_⟩).mono b9 Oj;exact(cA.mono (fun b hb=>.inl hb.2) hx).same mi
 ·refine pM aP H.wt fun b hb=>?_;rcases hb with hb|hb
  ·exact mi b hb
  ·refine g1 b (aH.lt H.wt hb).2 (aH.other H.wt H.kh ah b hb) (fun he=>?_);obtain⟨rw2,_,hw2,_⟩:=H.wt;exact cR hw2 r2 ah hb he.symm
 ·exact UF
theorem tH.ac8(H:tH c A n k w wr l1 tk v1 v2 v3 xs ys zs gr gh){rows:List (Row 4)}(r1:rows.length=ys.length)(r2:aI wr (gr+1) 79 4 dR v2 rows)(r3:∀(i:Nat) (r:Row 4) (x:Mo.Wt),rows[i]?=some r->ys[i]?=some x->TX wr (gJ wr) r.val x)(hd:x.cases.length<=d)(hx:dv wr (fun b=>q<=b/\Ty wr 110 b) bk B x.cases){o:Obj}(ho:aI w4 (gr+1) 79 4 dR v4 (rows++[rwW x B d]))(hg:(wr.alloc o).grownBy w4 v2.ownBlock):tH c A n k w (w4.setCell ⟨gh,2,none⟩ v4) l1 tk v1 v4 v3 xs (ys++[x]) zs gr gh:=by
 obtain⟨g1,g2,g3,g4⟩:=H.grown (row:=v2) (fun b hb=>⟨(aX r2 hb).1,dV r2 b hb⟩) o hg ah ah ah 2 v4
 obtain⟨k1,k2,k3⟩:=H.keep (v4:=v2) g1 (fun b hb=>(aX r2 hb).1)
 have mi:Sm (gJ wr) wr (w4.setCell ⟨gh,2,none⟩ v4):=fun b hb=>g1 b hb.lt (g4 b hb).1 (g4 b hb).2
 have Oj:∀b,gJ wr b->gJ (w4.setCell ⟨gh,2,none⟩ v4) b:=fun b hb=>by exact UE
 refine⟨k1,k2,k3,g3.bb 2 _,?_,?_,?_,g2,H.far,H.rg⟩
 ·refine pM b9 H.ch fun b hb=>?_;rcases hb with hb|hb
  ·exact mi b hb
  ·refine g1 b (aH.lt H.ch hb).2 (aH.other H.ch H.kh ah b hb) (fun he=>?_);obtain⟨rw2,_,hw2,_⟩:=H.ch;exact cR hw2 r2 ah hb he.symm
 ·refine(aH.app aP r1 r3 mi (bB ho g3 ah 2 v4) (x:=x) ⟨B,d,rfl,hd,?_⟩).mono aP Oj;exact(dv.mono (fun b hb=>.inr hb.2) hx).same mi
 ·exact UF
theorem tH.ac9(H:tH c A n k w wr l1 tk v1 v2 v3 xs ys zs gr gh){zs':List Mo.Rs}(ho:aI wr (gr+1) 48 4 dA v4 zs'):tH c A n k w (wr.setCell ⟨gh,3,none⟩ v4) l1 tk v1 v2 v4 xs ys zs' gr gh:=by
 have hs:∀b,b≠gh->(wr.setCell ⟨gh,3,none⟩ v4).heap[b]?=wr.heap[b]?:=fun b hb=>dp _ _ _ _ hb;have mi:∀b,gJ wr b->b≠gh:=fun b hb e=>by subst e;exact gJ.not H.kh ah ah hb
 have hf:=H.far;have hg:=H.rg;obtain⟨B,d,h1,h2,h3⟩:=H.rd;refine⟨(hs _ ae).trans H.kc,(hs _ ae).trans H.kr,⟨B,d,(hs _ ae).trans h1,h2,h3.same fun b hb=>hs b ae⟩,H.kh.bb 3 _,?_,?_,bB ho H.kh ah 3 v4,H.ext.setCell (p:=⟨gh,3,none⟩) (by show w.heap.size<=gh;omega) _,H.far,H.rg⟩
 ·exact pM b9 H.ch fun b hb=>hs b (hb.elim (mi b) (aH.other H.ch H.kh ah b))
 ·exact pM aP H.wt fun b hb=>hs b (hb.elim (mi b) (aH.other H.wt H.kh ah b))
theorem wY(l:List Int):∀(n:Nat),n<=l.length->Mo.pieces (fun l=>Mo.cS (l.getD 0 0)) 1 n l=(l.take n).map Mo.cS:=by
 intro n;induction n generalizing l with
 |zero=>intro _;rfl
 |succ n ih =>
  intro hn;cases l with
  |nil=>simp at hn
  |cons z l=>rw[Mo.pieces];simp only[List.drop_succ_cons,List.drop_zero,List.take_succ_cons,List.map_cons];rw[ih l (by simp at hn;omega)];rfl
end
end Go.Proofs.YtjcjjiieblineaaGreat
