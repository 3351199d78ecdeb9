/- Walks and plain facts. No condition. -/
import Derived.Test.YtjcjjiieblineaaGreatSc
import Derived.Test.YtjcjjiieblineaaGreatPe
import Derived.Test.YtjcjjiieblineaaGreatPn
namespace Go.Proofs.YtjcjjiieblineaaGreat
open Go.RowKit Go.Proofs.Tryz Mo
set_option maxHeartbeats 8000000
set_option maxRecDepth 100000
set_option linter.all false
variable {w w' w1:World}{n g base k m i j q d m3 m1 n1 n3 m2 base' dd n2 g1 m4 d1 d2 d3:Nat}{α:Type}{A A1 A3 B A2 D B1 A4 B2 B3:Option Addr}{c:Mo.bA}{e ty:TypeId}{v u v1 v3:Value}{S:Nat->Prop}{l:List Int}{h:Mo.Hl}{x:Mo.Wt}{hd seq sq:Int}{cs ys:Array Value}{xs:List α}{f:α->List Value}
theorem oC(a:bW h hd=some i):∃x,h.chans[i]?=some x/\x.used=true/\(eO hd).2.2=true/\x.gen=(eO hd).2.1/\i=(eO hd).1.toNat:=by
 unfold bW at a;split at a
 ·cases a
 ·rename_i c;split at a
  ·cases a
  ·rename_i x d;split at a
   ·rename_i b;injection a with a
    subst a;exact⟨x,d,b.1,by simpa using c,b.2,rfl⟩
   ·cases a
section
variable(w:World) {base g:Nat} {c:Mo.bA} {A:Option Addr} {n k:Nat} {t sq:Int} {h:Mo.Hl} {A1 A2 A3:Option Addr} {m1 m2 m3:Nat}
theorem Q5(H:ed w base g c A n k t sq h A1 A2 A3 m1 m2 m3)(C:Vb h)(o:Int) :
 Calls prog 275 #[.pointer g,o] w (NL base g c A n k t sq A1 A3 m1 m3 (qa h o) w):=by
 have G:Hid (Below w w (w.alloc jo)):=ak (aj w) _
 have l7:Hid (af (w.alloc jo) w 48 #[oZ,oZ,oZ,oZ]):=af.new _ _ _
 obtain⟨qI,rh⟩:=av (H.more G) H.wH
 have K:base<=w.heap.size:=bq H.low (Nat.le_of_lt H.blk.lt)
 obtain⟨f,-,p⟩:=af.aM qI.blk
 unfold nY at f
 have LL:g<w.heap.size:=H.blk.lt
 obtain⟨Fu,oy⟩:=av C (fun M (xc:Below w w M)=>oz M h.az A1 m1 h.chans rfl ((H.more xc).Fy) (.slice A2 h.waits.length m2) (.slice A3 h.done.length m3) h.waits h.done o)
 obtain⟨r,hr⟩:=aG (bW h o)
 have e0:bW ⟨h.az,h.chans,h.waits,h.done⟩ o=r:=hr.symm
 rw[e0]at oy
 obtain⟨zC,ue⟩:=av hr H.S8
 clear hr e0
 cases r with
 |none =>
  have HG:Hid (qa h o=(h,bI 8)):=by unfold Hid qa;rw[<-zC.Y]
  clear H C;go_enter func275,ntmps275;go_wp2_with fail;go_fit (oy _ G);rintro e u ⟨rfl,a⟩;obtain⟨Y,uw,D,F⟩:=bN ((G.mono K).trans (a.mono (by simp;omega))) (ai G a) (qI.more a) (l7.ai a);clear a f p;obtain⟨dR,dK,-⟩:=af.aM F;have dN:=af.lt F;have f:=fun i=>af.cell (ed.blk D) i;have p:=af.lt (ed.blk D);unfold nY at f;go_wp2_with fail;have S:=aQ (vs:=[oZ,oZ,.int .i64 8,oZ]) F rfl;have xC:=ed.bO D rh (aS _) F ag ag 0 [oZ,oZ,.int .i64 8,oZ];have gv:Below base w (aw u w 0 [oZ,oZ,.int .i64 8,oZ]):=ax K _ _ _ Y;change bodyPost _ _ _ _ _ (aw u w 0 [oZ,oZ,.int .i64 8,oZ]);have xD:=ue.Y _ ((lG.ext uw).new (q:=w.heap.size) aa 0 [oZ,oZ,.int .i64 8,oZ]);clear dR dK dN f p;generalize aw u w 0 [oZ,oZ,.int .i64 8,oZ]=wz at *;have fH:=fun i=>af.cell S i;refine bodyPost_ret (v:=.agg #[oZ,oZ,.int .i64 8,oZ]) ?_ rfl ?_
  ·exact aar
  ·exact XV
 |some i =>
  obtain⟨x,L,hu,V⟩:=oC zC.symm;clear V;have OX:x.buf.length<=90000:=C.buf x (bX L);have X:=ae (fun M (xc:Below w w M) (B:Option Addr) (d:Nat) (mV:bJ M .i64 B x.buf)=>QI M x B x.buf.length d rfl OX mV A2 m2 h.waits rfl C.waits ((H.more xc).XT) (fun y hy=>C.cases y hy) o hu);have U:gm h i=x:=by unfold gm;rw[cZ,L];rfl
  have HG:Hid (qa h o=if xM x o h.waits=false then(h,bI 13)else({h with chans:=h.chans.set i ⟨x.gen,0,false,false,[]⟩},dD)):=by unfold Hid qa;rw[<-zC.Y];dsimp only;rw[U]
  have HX:=ae L;have Jk:i<h.chans.length:=dv L;clear H C U;go_enter func275,ntmps275;go_wp2_with fail;go_fit (oy _ G);rintro e u ⟨rfl,a⟩;obtain⟨Y,D,F⟩:=aZ (ai G a) (qI.more a) (l7.ai a);obtain⟨ad,B,d,T,Ep,(lX:Hid _),Z,Q,I,R,J⟩:=pU.row D.Fy L;subst T;rw[hu]at I X;generalize x.buf.length=bl at J X;have i1:(0:Int)<=(i:Int):=aa;have i2:(i:Int)<(h.chans.length:Int):=aa;clear a f p L hu Ep OX;obtain⟨f,-,p⟩:=af.aM D.blk;unfold nY at f;go_wp2_with fail;go_still_tail 14,(by kernel_rfl)
  change wpList _ _ _ _ _ u.drew;have O:=ae (D.more (aj u).drew);have N:Hid (af u.drew _ _ _):=F.Y;obtain⟨P,z⟩:=av Y.drew (lX.below (aj u).drew);generalize u.drew=wd at *;clear f p Z Q I R J D F Y lX;go_wp2_with fail;go_fit (X _ P B d z);rintro e E ⟨rfl,l⟩;obtain⟨bE,uw,j,W⟩:=bN ((P.mono K).trans (l.mono (bq K P.size))) (ai P l) (O.more l) (N.ai l);clear l X O N P z;obtain⟨dR,dK,-⟩:=af.aM W;have dN:=af.lt W;have f:=fun i=>af.cell (ed.blk j) i;have p:=af.lt (ed.blk j);unfold nY at f;rcases s:xM x o h.waits with _|_
  ·have JZ:Hid (qa h o=(h,bI 13)):=by unfold Hid;rw[HG.Y,au s]
   clear s;go_wp2_with fail;have S:=aQ (vs:=[oZ,oZ,.int .i64 13,oZ]) W rfl;have xC:=ed.bO j rh (aS _) W ag ag 0 [oZ,oZ,.int .i64 13,oZ];have gv:Below base w (aw E w 0 [oZ,oZ,.int .i64 13,oZ]):=ax K _ _ _ bE;change bodyPost _ _ _ _ _ (aw E w 0 [oZ,oZ,.int .i64 13,oZ]);have xD:=ue.Y _ ((lG.ext uw).new (q:=w.heap.size) aa 0 [oZ,oZ,.int .i64 13,oZ]);clear dR dK dN f p;generalize aw E w 0 [oZ,oZ,.int .i64 13,oZ]=wz at *;have fH:=fun i=>af.cell S i;refine bodyPost_ret (v:=.agg #[oZ,oZ,.int .i64 13,oZ]) ?_ rfl ?_
   ·exact aar
   ·exact QR
  ·have JZ:Hid (qa h o=({h with chans:=h.chans.set i ⟨x.gen,0,false,false,[]⟩},dD)):=by unfold Hid;rw[HG.Y,ah (by rw[s];decide)]
   clear s;obtain⟨m,mm,hv,a6,a7⟩:=j.chans.form (by have:=bX HX;intro he;rw[he]at this;cases this);injection hv with e1 e2 e3
   injection e1 with e1
   subst e1 e3;clear e2;obtain⟨ad,B2,d2,T,_,_,Z,Q,I,R,J⟩:=pU.row j.Fy HX;injection T with T
   subst T;have f0:=j.chans.cR (i*5);have f1:=j.chans.cR (i*5+1);have f2:=j.chans.cR (i*5+2);have f3:=j.chans.cR (i*5+3);have f4:=j.chans.cR (i*5+4);rw[oP,Nat.zero_add]at Z Q I R J;dsimp only at Q I R J;have a8:m<w.heap.size:=rh.2.1 m rfl;go_wp2;go_region;all_goals
    go_wp2_with fail;have Ve:Bh g w {h with chans:=h.chans.set i ⟨x.gen,0,false,false,[]⟩} m A2 A3 m1 m2 m3:=by unfold Bh;dsimp only;rw[cq];exact rh.Y
    have aq:=j.QN (i:=i) Jk ⟨x.gen,0,false,false,[]⟩ none 0 (aS _) (bJ.nil _ _ _) (fun b C=>by cases C);have uk:=ba W (b:=w.heap.size) (g:=m) aa [x.gen,oZ,false,false,oN] (i*5);have qp:Below base w (aw E m (i*5) [x.gen,oZ,false,false,oN]):=ax a6 _ _ _ bE;clear Z Q I R J f0 f1 f2 f3 f4;have hD:=(aj (aw (aw E m (i*5) [x.gen,oZ,false,false,oN]) w 0 [oZ,oZ,oZ,oZ])).drew;have S:=(aQ (vs:=[oZ,oZ,oZ,oZ]) uk rfl).ai hD;have xC:=(ed.bO aq Ve (aS _) uk ag ag 0 [oZ,oZ,oZ,oZ]).more hD;have gv:Below base w (aw (aw E m (i*5) [x.gen,oZ,false,false,oN]) w 0 [oZ,oZ,oZ,oZ]).drew:=(ax K _ _ _ qp).drew;change bodyPost _ _ _ _ _ (aw (aw E m (i*5) [x.gen,oZ,false,false,oN]) w 0 [oZ,oZ,oZ,oZ]).drew;have xD:=ue.Y _ (lG.drew (((lG.ext uw).Vd (q:=m) rfl (i*5) [x.gen,oZ,false,false,oN]).new (q:=w.heap.size) aa 0 [oZ,oZ,oZ,oZ]));clear dR dK dN f p hD;generalize(aw (aw E m (i*5) [x.gen,oZ,false,false,oN]) w 0 [oZ,oZ,oZ,oZ]).drew=wz at *;have fH:=fun i=>af.cell S i;refine bodyPost_ret (v:=.agg #[oZ,oZ,oZ,oZ]) ?_ rfl ?_
    ·exact aar
    ·exact QR
end
section
variable(w:World) {base g:Nat} {c:Mo.bA} {A:Option Addr} {n k:Nat} {t sq:Int} {h:Mo.Hl} {A1 A2 A3:Option Addr} {m1 m2 m3:Nat}
theorem Ez(H:ed w base g c A n k t sq h A1 A2 A3 m1 m2 m3)(q:Rq)(D:Option Addr)(p o:Nat) :
 Calls prog 278 #[.pointer g,.agg #[q.kind,q.arg,q.value,q.dflt,.slice D p o]] w (NL base g c A n k t sq A1 A3 m1 m3 (h,pE h q) w):=by
 have R:Hid (Below w w ((w.alloc (jx q D p o)).alloc jo)):=ak (ak (aj w) _) _
 have O:Hid (af ((w.alloc (jx q D p o)).alloc jo) w 42 #[q.kind,q.arg,q.value,q.dflt,.slice D p o]):=(af.new _ _ _).alloc _
 have l7:Hid (af ((w.alloc (jx q D p o)).alloc jo) (w.heap.size+1) 48 #[oZ,oZ,oZ,oZ]):=(af.newAt _ _ _ (by simp))
 obtain⟨P,rh⟩:=av (H.more R.Y) H.wH
 have E:base<=w.heap.size:=bq H.low (Nat.le_of_lt H.blk.lt)
 have LL:g<w.heap.size:=H.blk.lt
 have oy:=ae (fun wx (xc:Below w w wx)=>oz wx h.az A1 m1 h.chans rfl ((H.more xc).Fy) (.slice A2 h.waits.length m2) (.slice A3 h.done.length m3) h.waits h.done q.arg)
 obtain⟨r,Y⟩:∃r,r=bW h q.arg:=⟨_,rfl⟩
 have e0:bW ⟨h.az,h.chans,h.waits,h.done⟩ q.arg=r:=Y.symm
 rw[e0]at oy
 obtain⟨zC,C,ue⟩:=aZ Y R.Y.drew H.S8
 clear Y e0 H
 go_enter func278,ntmps278
 go_wp2_with fail
 generalize((w.alloc (jx q D p o)).alloc jo)=wv at *
 obtain⟨K,L,-⟩:=af.aM O.Y
 have Q:=af.lt O.Y
 have l:=fun i=>af.cell (ed.blk P.Y) i
 have G:=af.lt (ed.blk P.Y)
 unfold nY at l
 have z:=ae (P.Y.more (aj _).drew)
 have u:Hid (af wv.drew w 42 #[q.kind,q.arg,q.value,q.dflt,.slice D p o]):=O.Y
 have y:Hid (af wv.drew (w.heap.size+1) 48 #[oZ,oZ,oZ,oZ]):=l7.Y
 go_region_law(first
  |(go_simp;go_at_call 283;(with_reducible go_fit (oy.Y _ C.Y));rintro e f ⟨rfl,a⟩;go_wp2_with fail))
 all_goals
  clear l G K L Q O l7 P R;obtain⟨s,j,fY,S,uw⟩:=dh (z.Y.more a) (y.Y.ai a) (u.Y.ai a) ((C.Y.mono E).trans (a.mono (bq E C.Y.size))) (ai C.Y a);clear a z y u C oy;obtain⟨W,U,-⟩:=af.aM j.Y;have V:=af.lt j.Y;have l:=fun i=>af.cell (ed.blk s.Y) i;have G:=af.lt (ed.blk s.Y);unfold nY at l;obtain⟨X,-,Z⟩:=af.aM fY.Y;cases r with
  |none =>
   have HG:Hid (pE h q=bI 8):=by unfold Hid pE;rw[<-zC.Y]
   go_wp2_with fail;clear X Z;have F:=aQ (vs:=[oZ,oZ,.int .i64 8,oZ]) j.Y rfl;have xC:=ed.bO s.Y rh.Y (cj _) j.Y (by decide) (by decide) 0 [oZ,oZ,.int .i64 8,oZ];have gv:Below base w (aw f (w.heap.size+1) 0 [oZ,oZ,.int .i64 8,oZ]):=ax (bq E (cj _)) _ _ _ S.Y;change bodyPost _ _ _ _ _ (aw f (w.heap.size+1) 0 [oZ,oZ,.int .i64 8,oZ]);have xD:=ue.Y _ ((lG.ext uw.Y).new (q:=(w.heap.size+1)) (by omega) 0 [oZ,oZ,.int .i64 8,oZ]);clear W U V l G;generalize aw f (w.heap.size+1) 0 [oZ,oZ,.int .i64 8,oZ]=wz at *;have fH:=fun i=>af.cell F i;refine bodyPost_ret (v:=.agg #[oZ,oZ,.int .i64 8,oZ]) ?_ rfl ?_
   ·exact aas
   ·exact XV
  |some i =>
   obtain⟨x,N,hu,M⟩:=oC zC.Y.symm;clear M;have Jk:i<h.chans.length:=dv N;have J:gm h i=x:=by unfold gm;rw[cZ,N];rfl
   have HG:Hid (pE h q=if q.kind=6 then⟨0,0,0,x.cap⟩else⟨0,0,0,x.buf.length⟩):=by unfold Hid pE;rw[<-zC.Y];dsimp only;rw[J]
   obtain⟨ad,B,d,hA,Ep,mV,c0,c1,c2,c3,T⟩:=pU.row s.Y.Fy N;subst hA;obtain⟨b,I⟩:∃b,b=x.buf.length:=⟨_,rfl⟩
   rw[<-I]at T HG;have i1:(i:Int)<(h.chans.length:Int):=by omega
   clear N hu J Ep mV I c0 c2 c3;by_cases m:q.kind=6
   ·have JZ:Hid (pE h q=⟨0,0,0,x.cap⟩):=by unfold Hid;rw[HG.Y,au m]
    have d1:(q.kind==6)=true:=by simpa using m
    clear m;go_wp2_with fail;clear X Z c1 T;have F:=aQ (vs:=[oZ,oZ,oZ,x.cap]) j.Y rfl;have xC:=ed.bO s.Y rh.Y (cj _) j.Y (by decide) (by decide) 0 [oZ,oZ,oZ,x.cap];have gv:Below base w (aw f (w.heap.size+1) 0 [oZ,oZ,oZ,x.cap]):=ax (bq E (cj _)) _ _ _ S.Y;change bodyPost _ _ _ _ _ (aw f (w.heap.size+1) 0 [oZ,oZ,oZ,x.cap]);have xD:=ue.Y _ ((lG.ext uw.Y).new (q:=(w.heap.size+1)) (by omega) 0 [oZ,oZ,oZ,x.cap]);clear W U V l G;generalize aw f (w.heap.size+1) 0 [oZ,oZ,oZ,x.cap]=wz at *;have fH:=fun i=>af.cell F i;refine bodyPost_ret (v:=.agg #[oZ,oZ,oZ,x.cap]) ?_ rfl ?_
    ·exact aas
    ·exact QR
   ·have JZ:Hid (pE h q=⟨0,0,0,b⟩):=by unfold Hid;rw[HG.Y,ah m]
    have d1:(q.kind==6)=false:=by simpa using m
    clear m;go_wp2_with fail;clear X Z c1 T;have F:=aQ (vs:=[oZ,oZ,oZ,b]) j.Y rfl;have xC:=ed.bO s.Y rh.Y (cj _) j.Y (by decide) (by decide) 0 [oZ,oZ,oZ,b];have gv:Below base w (aw f (w.heap.size+1) 0 [oZ,oZ,oZ,b]):=ax (bq E (cj _)) _ _ _ S.Y;change bodyPost _ _ _ _ _ (aw f (w.heap.size+1) 0 [oZ,oZ,oZ,b]);have xD:=ue.Y _ ((lG.ext uw.Y).new (q:=(w.heap.size+1)) (by omega) 0 [oZ,oZ,oZ,b]);clear W U V l G;generalize aw f (w.heap.size+1) 0 [oZ,oZ,oZ,b]=wz at *;have fH:=fun i=>af.cell F i;refine bodyPost_ret (v:=.agg #[oZ,oZ,oZ,b]) ?_ rfl ?_
    ·exact aas
    ·exact QR
end
section
variable{w w':World} {base g:Nat} {c:Mo.bA} {A:Option Addr} {n k:Nat} {t sq:Int} {h:Mo.Hl} {A1 A2 A3:Option Addr} {m1 m2 m3:Nat}
theorem ed.aat(H:ed w base g c A n k t sq h A1 A2 A3 m1 m2 m3)(a:af w q ty ys)(b:ty≠287):g≠q:=by
 rintro rfl;have:=H.blk;unfold af at this a;rw[a]at this;injection this with this
 injection this with _ h _
 exact b h
theorem ed.Mq(H:ed w base g c A n k t sq h A1 A2 A3 m1 m2 m3)(r:af w q ty ys)(s:ty≠3)(y:ty≠110)(z:ty≠287)(C:83≠ty)(E:79≠ty)(F:∀b,(Value.slice A3 h.done.length m3).ownBlock=some b->b≠q)(o:Nat)(vs:List Value):ed (aw w q o vs) base g c A n k t sq h A1 A2 A3 m1 m2 m3:=by
 have d:∀b,iU w b->b≠q:=fun b a e=>by subst e;exact iU.not r s y a
 refine⟨ba H.blk (H.aat r z) _ _,?_,?_,cm F _ _ _ _ H.done,H.low⟩
 ·exact(aI.move cP H.chans (fun b a=>aO (d b a) _ _) (fun b a=>aO (H.chans.other r C b a) _ _)).mono cP (fun b a=>fN _ _ _ a)
 ·exact(aI.move aR H.waits (fun b a=>aO (d b a) _ _) (fun b a=>aO (H.waits.other r E b a) _ _)).mono aR (fun b a=>fN _ _ _ a)
theorem ed.Q6(H:ed w base g c A n k t sq h A1 A2 A3 m1 m2 m3){o:List Wt}(p:lB w base (.slice A4 o.length m4) o) :
 ed (aw w g 2 [.slice A4 o.length m4]) base g c A n k t sq {h with waits:=o} A1 A4 A3 m1 m4 m3:=by
 have d:=H.blk
 have f:∀b,iU w b->b≠g:=fun b a e=>by subst e;exact iU.not d ag ag a
 refine⟨?_,?_,?_,cm (fun b a e=>by subst e;exact fk H.done d ag a.symm) _ _ _ _ H.done,H.low⟩
 ·unfold nY at d;have:=dL [.slice A4 o.length m4] w 2 _ d;exact this
 ·exact(aI.move cP H.chans (fun b a=>aO (f b a) _ _) (fun b a=>aO (H.chans.other d ag b a) _ _)).mono cP (fun b a=>fN _ _ _ a)
 ·exact(aI.move aR p (fun b a=>aO (f b a) _ _) (fun b a=>aO (aI.other p d ag b a) _ _)).mono aR (fun b a=>fN _ _ _ a)
theorem ed.told{o:Nat}(H:ed w base g c A n k t sq h A1 A2 o m1 m2 m3){L:List Rs}(r:L.length=h.done.length)(p:ud w w' base o h.done.length m3 L) :
 ed w' base g c A n k t sq {h with done:=L} A1 A2 o m1 m2 m3:=by
 obtain⟨v,u,hg⟩:=vo H.done
 have s:∀b,iU w b->b≠o:=fun b a i=>by subst i;exact iU.not hg ag ag a
 have q:g≠o:=by exact aae
 have m:∀b,iU w b->w'.heap[b]?=w.heap[b]?:=fun b a=>p.rest b a.lt (s b a)
 have d:∀b,iU w b->iU w' b:=fun b a=>by
  have e:=m b a
  rcases a with⟨y,f,j⟩|⟨y,f,j⟩
  ·exact .inl ⟨y,f,e.trans j⟩
  ·exact .inr ⟨y,f,e.trans j⟩
 refine⟨?_,?_,?_,?_,H.low⟩
 ·rw[r];exact(p.rest g H.blk.lt q).trans H.blk
 ·exact(aI.move cP H.chans m (fun b a=>p.rest b (H.chans.lt a).2 (fun i=>by
   subst i
   obtain⟨rows,_,l,_⟩:=H.chans
   exact fk l hg ag a.symm))).mono cP d
 ·exact(aI.move aR H.waits m (fun b a=>p.rest b (H.waits.lt a).2 (fun i=>by
   subst i
   obtain⟨rows,_,l,_⟩:=H.waits
   exact fk l hg ag a.symm))).mono aR d
 ·rw[r];exact p.own
end
def aeB(base g:Nat)(c:bA)(A:Option Addr)(n k:Nat)(t C:Int)(h:Hl)(r s o:Option Addr)(y z p:Nat)(w:World)(e:Ending)(a:World):Prop:=e=.returned (.tuple #[])/\ed a base g c A n k t C h r s o y z p/\Below base w a/\∀b,b<w.heap.size->some b≠(Value.slice o h.done.length p).ownBlock->a.heap[b]?=w.heap[b]?
theorem Hv(w:World){t:Int}(H:ed w base g c A n k t sq h A1 A2 A3 m1 m2 m3)(D:Option Addr)(y:Nat)(o:List Mo.Told)(F:j=o.length)(E:j<=100)(G:dI w nz D o)(z:∀b,D=some b->o≠[]->Ty w 229 b.block)(J:∀x∈o,x.th<h.done.length)(p:h.done≠[]) :
 Calls prog 290 #[.pointer g,.slice D j y] w (aeB base g c A n k t sq {h with done:=fV h.done o} A1 A2 A3 m1 m2 m3 w):=by
 obtain⟨i,m,I,l,N⟩:=H.done.form p
 injection I with e1 e2 e3
 subst e1 e3
 clear e2
 obtain⟨P,M,hg⟩:=vo H.done
 have v:g≠i:=by exact aae
 have d:base<=w.heap.size:=bq H.low (Nat.le_of_lt H.blk.lt)
 have C:w.cell? ⟨g,3,none⟩=some (.slice i h.done.length m3):=af.cell H.blk 3
 have B:ud w w base i h.done.length m3 h.done:=⟨H.done,fun _ _ _=>rfl,(aj w).mono d,aS _,l⟩
 go_fit (QM w C H.blk.lt v d h.done B D y o F E G (fun b q u s=>?_) J)
 ·obtain⟨K,L,f⟩:=z b q u;rw[s,hg]at f;injection f with f
  injection f with _ h _
  exact absurd h ag
 ·rintro e O ⟨rfl,a⟩;refine⟨rfl,H.told (mr _ _) a,a.ext,fun b q r=>a.rest b q (fun s=>r (by
   subst s;have:h.done.length≠0:=by intro l;exact p (List.length_eq_zero_iff.1 l)
   simp[Value.ownBlock]))⟩
section
variable(w:World) {base g:Nat} {c:Mo.bA} {A:Option Addr} {n k:Nat} {t sq:Int} {h:Mo.Hl} {A1 A2 A3:Option Addr} {m1 m2 m3:Nat}
theorem Hw(H:ed w base g c A n k t sq h A1 A2 A3 m1 m2 m3)(hb:Vb h)(tt nn:Int)(j5:h.done.length=h.waits.length) :
 Calls prog 279 #[.pointer g,tt,nn] w (NL base g c A n k t sq A1 A3 m1 m3 (jf h t tt nn) w):=by
 have M:Hid (Below w w (w.alloc jo)):=ak (aj w) _
 have l7:Hid (af (w.alloc jo) w 48 #[oZ,oZ,oZ,oZ]):=af.new _ _ _
 obtain⟨qI,HZ,HBZ,HFZ,ue,rh⟩:=cT (H.more M) (H.more (ak (aj w) (qX 0 0 12 0))) ((ak (aj w) (qX 0 0 12 0)).mono (bq H.low (Nat.le_of_lt H.blk.lt))) (H.S8 _ (.ext (ak (aj w) (qX 0 0 12 0)))) H.S8 H.wH
 have Y:base<=w.heap.size:=bq H.low (Nat.le_of_lt H.blk.lt)
 have LL:g<w.heap.size:=H.blk.lt
 have HR:=ae (fun(j:Nat) (x:Wt) l=>iu.row qI.XT (j:=j) (x:=x) l)
 by_cases L:tt<0
 ·have HX:=ae L;exact acy
 have i1:0<=tt:=aa
 have g1:¬tt<0:=L
 by_cases T:(h.waits.length:Int)<=tt
 ·have HX:=ae T;exact acy
 have i2:tt<h.waits.length:=aa
 by_cases D:tt=t
 ·have HX:=ae D;subst D;have d1:(tt==tt)=true:=aD;have JZ:Hid (jf h tt tt nn=(h,bI 12)):=by unfold Hid jf;rw[au (by first|exact .inl HX.Y|exact .inr (.inl HX.Y)|exact .inr (.inr (.inl HX.Y))|exact .inr (.inr (.inr (.inl HX.Y)))|exact .inr (.inr (.inr (.inr HX.Y))))]
  clear H hb HX;go_enter func279,ntmps279;have dC:=fun i=>af.cell (ed.blk qI) i;have gO:=af.lt (ed.blk qI);unfold nY at dC;go_wp2_with fail;have fH:=fun i=>af.cell (af.new w 48 #[oZ,oZ,.int .i64 12,oZ]) i;refine bodyPost_ret (v:=.agg #[oZ,oZ,.int .i64 12,oZ]) ?_ rfl ?_
  ·clear dC;simp[results,results279,go_sem,fH]
  ·rw[JZ.Y];exact⟨rfl,⟨_,_,HZ⟩,HBZ,HFZ⟩
 have d3:(tt==t)=false:=by simpa using D
 obtain⟨j,rfl⟩:∃j:Nat,tt=j:=⟨tt.toNat,aa⟩
 have hj:j<h.waits.length:=aa
 obtain⟨x,l⟩:∃x,h.waits[j]?=some x:=⟨_,cY hj⟩
 have a:h.waits.getD (j:Int).toNat iz=x:=by rw[cZ,gu,l];rfl
 obtain⟨ad,B,d,hA,Ep,mV,c0,c1,X,c3⟩:=HR.Y j x l
 subst hA
 clear Ep mV c3 c1
 obtain⟨on,tk,f,cs⟩:=x
 dsimp only at c0 X
 cases on with
 |false =>
  have HX:Hid ((h.waits.getD (j:Int).toNat iz).on=false):=by unfold Hid;rw[a]
  clear X a l;exact acz
 |true =>
  by_cases U:f=nn
  ·subst U;have HG:Hid (jf h t j f=({h with waits:=gY h.waits j,done:=fV h.done [⟨j,⟨f,0,11,0⟩⟩]},dD)):=by
    unfold Hid jf;rw[ah (by
     rintro(m|m|m|m|m)
     ·exact L m
     ·exact T m
     ·exact D m
     ·rw[a]at m;cases m
     ·rw[a]at m;exact m rfl)]
    rw[gu]
   have SZ:=ae (fun wx (xc:Below w w wx)=>ua wx (some ad) m2 h.waits rfl (bq hb.waits ag) (H.more xc).XT (fun x l=>bq (hb.cases x l) ag) l rfl);have a6:h.done≠[]:=by intro Z;rw[Z]at j5;simp at j5;omega
   have aq:j<h.done.length:=by rw[j5];exact hj
   have d5:(f !=f)=false:=aD;have jr:=ae (fun b hb=>Nat.ne_of_lt (rh.2.2.2 b hb));clear H hb a l L T D;go_enter func279,ntmps279;obtain⟨G,E,-⟩:=af.aM l7;have F:=af.lt l7;obtain⟨dC,o,-⟩:=af.aM (ed.blk qI);have gO:=af.lt (ed.blk qI);unfold nY at dC;go_wp2_with fail;refine(SZ _ M).mono ?_;rintro e C ⟨v,rfl,y,z,rfl,s,p⟩;obtain⟨W,K,O⟩:=aZ (ai M p) (qI.more p) (l7.ai p);have nX:(gY h.waits j).length=h.waits.length:=by unfold gY;rw[cq]
   rw[<-nX]at s;have pI:=ae (s.bD (base':=base) (by have:=M.size;omega));clear p s c0 X G E F dC o gO;obtain⟨G,E,-⟩:=af.aM O;have F:=af.lt O;obtain⟨dC,o,-⟩:=af.aM (ed.blk K);have gO:=af.lt (ed.blk K);unfold nY at dC;go_wp2_with fail;obtain⟨R,J⟩:=av (K.Q6 pI) (ba O (b:=w.heap.size) (g:=g) aa [.slice y (gY h.waits j).length z] 2);have V:Hid (Below base w (aw C g 2 [.slice y (gY h.waits j).length z])):=ax K.low _ _ _ (W.mono Y);rw[nX]at R J V;change Calls _ _ _ ((aw C g 2 [.slice y h.waits.length z]).alloc (.cells #[j,f,oZ,.int .i64 11,oZ] 229)) _;have rT:Hid (lG w g (.slice A1 h.chans.length m1) (.slice A3 h.done.length m3) (aw C g 2 [.slice y h.waits.length z])):=(lG.ext W).QO _ _;clear G E F dC o gO W K O pI;have I:(aw C g 2 [.slice y h.waits.length z]).heap.size=C.heap.size:=bH _ _ _;rw[<-I];generalize aw C g 2 [.slice y h.waits.length z]=u at *;clear I;have r:aH (u.alloc (.cells #[j,f,oZ,.int .i64 11,oZ] 229)) u 229 5 nz (.slice u 1 1) [⟨j,⟨f,0,11,0⟩⟩]:=World.ownsRow_lit u #[j,f,oZ,.int .i64 11,oZ] 1 (aS _) ag (size:=5) rfl;obtain⟨zI,N,cM⟩:=aZ (R.more (ak (aj u) (.cells #[j,f,oZ,.int .i64 11,oZ] 229))) (J.alloc (.cells #[j,f,oZ,.int .i64 11,oZ] 229)) (Hk V (bq Y (Nat.le_of_lt J.lt)) (.cells #[j,f,oZ,.int .i64 11,oZ] 229));refine(Hv (j:=1) _ zI u 1 [⟨j,⟨f,0,11,0⟩⟩] rfl aD r.zX.2 (fun b hb _=>by injection hb with hb;subst hb;exact vo r) (fun x l=>by simp at l;subst l;exact aq) a6).mono ?_;rintro e Q ⟨rfl,(S:Hid _),La,pK⟩;obtain⟨xf,gC⟩:=av ((rT.more (Nat.le_of_lt J.lt) (ak (aj u) _)).tell (Nat.le_of_lt N.lt) pK (Vc _ _ _ _ _)) (cM.trans La);have lF:Hid (∀b,(Value.slice A3 (fV h.done [⟨j,⟨f,0,11,0⟩⟩]).length m3).ownBlock=some b->b≠w.heap.size):=by unfold Hid;rw[mr];exact jr.Y
   have P:Hid (af Q w 48 #[oZ,oZ,oZ,oZ]):=(pK w N.lt (fun Z=>lF _ Z.symm rfl)).trans N;clear La pK zI N cM r R J V;obtain⟨G,E,-⟩:=af.aM P;have F:=af.lt P;obtain⟨dC,o,-⟩:=af.aM (ed.blk S);have gO:=af.lt (ed.blk S);unfold nY at dC;clear o;go_wp2_with fail;have fh:=aQ (vs:=[oZ,oZ,oZ,oZ]) P rfl;have xC:=ed.Mq S P ag ag ag ag ag lF 0 [oZ,oZ,oZ,oZ];have gv:Below base w (aw Q w 0 [oZ,oZ,oZ,oZ]):=ax Y _ _ _ gC;change bodyPost _ _ _ _ _ (aw Q w 0 [oZ,oZ,oZ,oZ]);have xD:=ue.Y _ (xf.new (q:=w.heap.size) aa 0 [oZ,oZ,oZ,oZ]);clear G E F dC gO;generalize aw Q w 0 [oZ,oZ,oZ,oZ]=wz at *;have fH:=fun i=>af.cell fh i;refine bodyPost_ret (v:=.agg #[oZ,oZ,oZ,oZ]) ?_ rfl ?_
   ·simp[results,results279,go_sem,fH]
   ·exact XV
  ·have HX:Hid ((h.waits.getD (j:Int).toNat iz).seq≠nn):=by unfold Hid;rw[a];exact U
   have d5:(f !=nn)=true:=by simpa using U
   clear a l;exact acz
end
structure Mr (G:Mo.p9) (xs:List Mo.Wt):Prop where
 len:G.l.length=xs.length
 told:G.told.length<=xs.length
 th:∀x∈G.told,x.th<xs.length
theorem Vw(x:Ch)(o:Int)(a:List Wt):Mr (pD x o a) a:=by
 unfold pD;split
 ·exact⟨rfl,aV _,fun y b=>by cases b⟩
 ·refine⟨J1,?_,?_⟩
  ·have c:(qY a o).length<=a.length:=by
    unfold qY;rw[jS];exact bq (List.length_filter_le _ _) aD
   simpa using c
  ·intro y b;obtain⟨t,d,rfl⟩:=List.mem_map.1 b;obtain⟨x,e,_⟩:=J0 d;exact dv e
theorem Q8(a:List Wt)(t:Nat):(gY a t).length=a.length:=by unfold gY;rw[cq]
theorem Q9{b:List Wt}{a:Int}{t:Nat}(h:dW b a hd=some (t,i)):t<b.length:=by obtain⟨x,c,_⟩:=py h;exact dv c
theorem Vx(x:Ch)(b:Int)(a:List Wt)(o:Int):Mr (mD x b a o) a:=by
 unfold mD;split
 ·exact XW
 ·exact⟨rfl,aV _,fun y hy=>by cases hy⟩
theorem Vy(x:Ch)(b:Int)(a:List Wt):Mr (mE x b a) a:=by
 unfold mE;split
 ·exact⟨rfl,aV _,fun y hy=>by cases hy⟩
 ·exact XW
theorem acA(x:Ch)(p:Int)(o:List Wt)(a r:Int):Mr (xm x p o a r) o:=by
 unfold xm;repeat' split
 all_goals first|exact Vx _ _ _ _|exact Vy _ _ _|exact⟨rfl,aV _,fun y b=>by cases b⟩
section
variable{w:World} {base g:Nat} {c:Mo.bA} {A:Option Addr} {n k:Nat} {t sq:Int} {h:Mo.Hl} {A1 A2 A3:Option Addr} {m1 m2 m3:Nat}
theorem ed.got(H:ed w base g c A n k t sq h g1 A2 A3 m1 m2 m3)(s:i<h.chans.length){G:p9}(r:lL G n1 base' w B d A4 m4 D dd)(y:G.l.length=n1)(a:base<=base') :
 ed (aw (aw w g1 (i*5) [G.c.gen,G.c.cap,G.c.used,G.c.closed,.slice B G.c.buf.length d]) g 2 [.slice A4 n1 m4]) base g c A n k t sq {h with chans:=h.chans.set i G.c,waits:=G.l} g1 A4 A3 m1 m4 m3 /\
 dI (aw (aw w g1 (i*5) [G.c.gen,G.c.cap,G.c.used,G.c.closed,.slice B G.c.buf.length d]) g 2 [.slice A4 n1 m4]) nz D G.told /\
 (∀b,D=some b->G.told≠[]->Ty (aw (aw w g1 (i*5) [G.c.gen,G.c.cap,G.c.used,G.c.closed,.slice B G.c.buf.length d]) g 2 [.slice A4 n1 m4]) 229 b.block):=by
 subst y
 obtain⟨v,l,q⟩:=H.chans.ty
 have u:¬iU w g1:=iU.not l ag ag
 have o:=H.QN s G.c B d r.cap r.pP r.S5
 have p:lB (aw w g1 (i*5) [G.c.gen,G.c.cap,G.c.used,G.c.closed,.slice B G.c.buf.length d]) base (.slice A4 G.l.length m4) G.l :=
  (aI.move aR (r.own.bD a) (fun b a=>aO (fun f=>by subst f;exact u a) _ _) (fun b a=>aO (fun f=>by
    subst f
    obtain⟨rows,_,e,_⟩:=r.own
    exact fk e l ag a.symm) _ _)).mono aR (fun b a=>fN _ _ _ a)
 have T:pY w (aw (aw w g1 (i*5) [G.c.gen,G.c.cap,G.c.used,G.c.closed,.slice B G.c.buf.length d]) g 2 [.slice A4 G.l.length m4]) g1 g 83 287:=⟨⟨_,l⟩,⟨_,H.blk⟩,fun b j e=>(aO e _ _).trans (aO j _ _),by rw[bH,bH]⟩
 refine⟨o.Q6 p,?_,fun b j e=>(T.ty (r.QG b j e) ag ag).1⟩
 exact T.rd r.Z9 (fun b a m=>r.QG b a (fun f=>m (by rw[f];rfl))) ag ag
end
theorem lL.one{g:p9}{c:Nat}(h:lL g n base w B d A c D dd)(T:pY w w' q q 83 83):lL g n base w' B d A c D dd :=
 ⟨T.rd h.pP (fun b e a=>h.S5 b e (fun f=>a (by rw[f];rfl))) ag ag,fun b e a=>(T.ty (h.S5 b e a) ag ag).1,h.cap,T.yR aR h.own ag ag ag ag,
  T.rd h.Z9 (fun b e a=>h.QG b e (fun f=>a (by rw[f];rfl))) ag ag,fun b e a=>(T.ty (h.QG b e a) ag ag).1,h.L0⟩
theorem ed.EA{t:Int}(H:ed w base g c A n k t sq h (some ⟨g1,0,none⟩) A2 A3 m1 m2 m3):g≠g1:=fun e=>by
 obtain⟨b,a,_⟩:=H.chans.ty
 have:=H.blk
 unfold af at this
 subst e
 rw[a]at this
 injection this with this
 injection this with _ this
 exact absurd this ag
def Ext(w w':World):Prop:=Below w w w'
section
variable{w a b:World}
theorem Ext.Y(h:Ext a b):Below a a b:=h
theorem Ext.start(w:World):Ext w w.drew:=(aj w).drew
theorem Ext.gR(w:World)(o:Obj):Ext w (w.alloc o).drew:=(ak (aj w) o).drew
theorem Ext.CE(w:World)(o r:Obj):Ext w ((w.alloc o).alloc r).drew:=(ak (ak (aj w) o) r).drew
theorem Ext.alloc(h:Ext a b)(o:Obj):Ext a (b.alloc o):=ak h o
theorem Ext.to(h:Ext a b)(k:Below b b w):Ext a w:=ai h k
theorem Ext.set(h:Ext a b){p:Addr}(r:a.heap.size<=p.block):Ext a (b.setCell p u):=h.setCell r u
theorem Ext.cell(h:Ext a b){p:Addr}(hc:a.cell? p=some u):b.cell? p=some u:=by rw[<-hc];exact Below.cell h (bb hc)
end
def aau(w:World)(base g z:Nat)(c:bA)(A:Option Addr)(n k:Nat)(t I:Int)(h:Hl)(o r:Option Addr)(C E F:Nat)(G:p9)(a:World)(p:Nat)(b:Option Addr)(d2:Nat)(s:Option Addr)(H:Nat)(D:Option Addr)(y:Nat):Prop:=af a p 83 #[.int .i64 G.c.gen,.int .i64 G.c.cap,.bool G.c.used,.bool G.c.closed,.slice b G.c.buf.length d2]/\ed a base g c A n k t I h (some ⟨z,0,none⟩) o r C E F/\af a w 48 #[.int .i64 0,.int .i64 0,.int .i64 0,.int .i64 0]/\lL G h.waits.length w a b d2 s H D y/\Below w w a/\w.heap.size<p
def acB(w:World)(base g s:Nat)(c:bA)(A:Option Addr)(n k:Nat)(t I:Int)(h:Hl)(o r:Option Addr)(y z C:Nat)(G:p9)(E F H a:Value)(J:World):Prop :=∃p B2 d2 A4 m4 D dd,E=.pointer (some ⟨p,0,none⟩)/\F=.slice A4 h.waits.length m4/\H=.int .i64 G.r.code/\a=.slice D G.told.length dd/\aau w base g s c A n k t I h o r y z C G J p B2 d2 A4 m4 D dd
section
variable(w:World) {base g:Nat} {c:Mo.bA} {A:Option Addr} {n k:Nat} {t sq:Int} {h:Mo.Hl} {A1 A2 A3:Option Addr} {m1 m2 m3:Nat}
theorem Ms(H:ed w base g c A n k t sq h A1 A2 A3 m1 m2 m3)(T:Vb h)(O:Int)(j5:h.done.length=h.waits.length)(P:h.done≠[]) :
 Calls prog 277 #[.pointer (some ⟨g,0,none⟩),.int .i64 O] w (NL base g c A n k t sq A1 A3 m1 m3 (n7 h O) w):=by
 have V:Hid (Below w w (w.alloc jo)):=ak (aj w) _
 have l7:Hid (af (w.alloc jo) w 48 #[.int .i64 0,.int .i64 0,.int .i64 0,.int .i64 0]):=af.new _ _ _
 obtain⟨qI,ue,rh⟩:=aZ (H.more V) H.S8 H.wH
 have fK:base<=w.heap.size:=bq H.low (Nat.le_of_lt H.blk.lt)
 obtain⟨m,-,K⟩:=af.aM qI.blk
 unfold nY at m
 have LL:g<w.heap.size:=H.blk.lt
 obtain⟨oy,bg,Ra⟩:=aZ (fun a (xc:Below w w a)=>oz a h.az A1 m1 h.chans rfl ((H.more xc).Fy) (.slice A2 h.waits.length m2) (.slice A3 h.done.length m3) h.waits h.done O) j5 P
 clear j5 P
 have jr:=ae (fun b T=>Nat.ne_of_lt (rh.2.2.2 b T))
 obtain⟨r,hr⟩:=aG (bW h O)
 have e0:bW ⟨h.az,h.chans,h.waits,h.done⟩ O=r:=hr.symm
 rw[e0]at oy
 have zC:=ae hr
 clear hr e0
 cases r with
 |none =>
  have HG:Hid (n7 h O=(h,bI 8)):=by unfold Hid n7;rw[<-zC.Y]
  clear H T;go_enter func277,ntmps277;go_wp2_with fail;go_fit (oy _ V);rintro e l ⟨rfl,j⟩;obtain⟨X,R,S,uw⟩:=bN ((V.mono fK).trans (j.mono (by simp;omega))) (qI.more j) (l7.ai j) (ai V j);clear j m K;obtain⟨dR,dK,-⟩:=af.aM S;have dN:=af.lt S;obtain⟨m,J,-⟩:=af.aM (ed.blk R);have K:=af.lt (ed.blk R);unfold nY at m;clear J;go_wp2_with fail;have fh:=aQ (vs:=[.int .i64 0,.int .i64 0,.int .i64 8,.int .i64 0]) S rfl;have xC:=ed.bO R rh (aS _) S ag ag 0 [.int .i64 0,.int .i64 0,.int .i64 8,.int .i64 0];have gv:Below base w (aw l w 0 [.int .i64 0,.int .i64 0,.int .i64 8,.int .i64 0]):=ax fK _ _ _ X;change bodyPost _ _ _ _ _ (aw l w 0 [.int .i64 0,.int .i64 0,.int .i64 8,.int .i64 0]);have xD:=ue.Y _ ((lG.ext uw).new (q:=w.heap.size) aa 0 [.int .i64 0,.int .i64 0,.int .i64 8,.int .i64 0]);clear dR dK dN m K;generalize aw l w 0 [.int .i64 0,.int .i64 0,.int .i64 8,.int .i64 0]=wz at *;have fH:=fun i=>af.cell fh i;refine bodyPost_ret (v:=.agg #[.int .i64 0,.int .i64 0,.int .i64 8,.int .i64 0]) ?_ rfl ?_
  ·simp[results,results277,go_sem,fH]
  ·rw[HG.Y];exact⟨rfl,⟨_,_,xC⟩,gv,xD⟩
 |some i =>
  obtain⟨x,f,hu,a7⟩:=oC zC.symm;clear a7;have OX:x.buf.length<=90000:=T.buf x (bX f);have Z:=ae (fun a (xc:Below w w a) (B:Option Addr) (d:Nat) (mV:bJ a .i64 B x.buf)=>QJ a x B x.buf.length d rfl OX mV A2 m2 h.waits rfl T.waits ((H.more xc).XT) (fun y hy=>T.cases y hy) O hu);have a6:gm h i=x:=by unfold gm;rw[cZ,f];rfl
  obtain⟨G,N⟩:=aG (pD x O h.waits);have HG:Hid (n7 h O=({h with chans:=h.chans.set i G.c,waits:=G.l,done:=fV h.done G.told},bI G.r.code)):=by unfold Hid n7;rw[<-zC.Y];dsimp only;rw[a6,N]
  have U:Hid (Mr G h.waits):=by rw[N];exact Vw _ _ _
  rw[<-N]at Z;have HX:=ae f;have Jk:i<h.chans.length:=dv f;have S9:h.waits.length<=19:=T.waits;clear H T a6 N;go_enter func277,ntmps277;go_wp2_with fail;go_fit (oy _ V);rintro e l ⟨rfl,j⟩;obtain⟨X,R,S⟩:=aZ (ai V j) (qI.more j) (l7.ai j);obtain⟨u,mm,hv,(bo:Hid _),bR⟩:=R.chans.form (by have:=bX HX;intro he;rw[he]at this;cases this);injection hv with e1 e2 e3
  subst e1 e3;clear e2;obtain⟨ad,B,d,I,Ep,(lX:Hid _),M,z,o,C,s⟩:=pU.row R.Fy f;injection I with I
  subst I;rw[oP,Nat.zero_add]at M z o C s;dsimp only at z o C s;have bY:u<w.heap.size:=rh.2.1 u rfl;rw[hu]at o Z;generalize x.buf.length=bl at s Z;have i1:(0:Int)<=(i:Int):=aa;have i2:(i:Int)<(h.chans.length:Int):=aa;clear j m K f hu Ep OX;obtain⟨m,-,K⟩:=af.aM R.blk;unfold nY at m;go_upto_region 4 with fail
  go_cut[7,8,9,10] (fun s7 s8 s9 bz a=>acB w base g u c A n k t sq h A2 A3 m1 m2 m3 G s7 s8 s9 bz a);case first =>
   obtain⟨Ai,Fz,Mt⟩:=aZ (fun a (f:Ext l a)=>R.Y.more f.Y) (fun a (f:Ext l a)=>S.ai f.Y) (fun a (f:Ext l a)=>Z a (ai X f.Y) B d (lX.below f.Y));have m:=fun a (f:Ext l a) i=>af.cell (ed.blk (Ai a f)) i;unfold nY at m;have d0:=fun a (f:Ext l a)=>f.cell M;have d1:=fun a (f:Ext l a)=>f.cell z;have d2:=fun a (f:Ext l a)=>f.cell o;have d3:=fun a (f:Ext l a)=>f.cell C;have d4:=fun a (f:Ext l a)=>f.cell s;have Ee:w.heap.size<l.heap.size:=S.lt;have a8:Hid (af (l.alloc rB).drew l 83 #[.int .i64 0,.int .i64 0,.bool false,.bool false,.slice none 0 0]):=af.new l 83 #[.int .i64 0,.int .i64 0,.bool false,.bool false,.slice none 0 0];clear M z o C s;go_region_held3(Ext l) (with_reducible(first|assumption|exact Ext.start _|exact Ext.gR _ _|exact Ext.alloc (by assumption) _|((repeat(refine Ext.set ?_ (by simp;try omega)));first|assumption|exact Ext.alloc (by assumption) _))) (((with_reducible refine(Mt.Y _ (by assumption)).mono ?_);rintro e w2 ⟨E,e2,L,Q,D,dd,rfl,hP,W⟩;have xg:=Ext.to (by assumption) W;have Y:=ae hP;(try(have jI:=ae (a8.Y.ai W);have aq:=fun i=>af.cell jI.Y i;have b5:=fun i=>af.free jI.Y i;have jM:=af.lt jI.Y));clear hP))
   ·go_wp2;go_meet;exact⟨_,E,e2,L,Q,D,dd,rfl,rfl,rfl,rfl,af.new _ _ _,Ai.Y _ (by assumption),Fz.Y _ (by assumption),(Y.Y.bD (base':=w.heap.size) (Nat.le_of_lt Ee)).more (ak (aj _) _),ai X.Y (Ext.Y (by assumption)),by have:=W.size;simp at this;omega⟩
   ·go_wp2;go_meet;have hT:=pY.one (v1:=[.int .i64 G.c.gen,.int .i64 G.c.cap,.bool G.c.used,.bool G.c.closed,.slice E G.c.buf.length e2]) jI rfl;exact⟨_,E,e2,L,Q,D,dd,rfl,rfl,rfl,rfl,hT.2,Ai.Y _ (by assumption),Fz.Y _ (by assumption),(Y.Y.bD (base':=w.heap.size) (by simp;omega)).one hT.1,ai X.Y (Ext.Y (by assumption)),Ee⟩
  case rest =>
   obtain⟨p,E,d2,L,Q,D,dd,rfl,rfl,rfl,rfl,(HC:Hid _),hV,hQ,hP,hB,hp⟩:=hcut;obtain⟨F,HQ,Y,HB,uw⟩:=dh hV hQ hP (hB.mono fK) hB;obtain⟨ad,B9,d9,I,_,_,M,z,o,C,s⟩:=pU.row hV.Fy HX;injection I with I
   subst I;have f0:=F.chans.cR (i*5);have f1:=F.chans.cR (i*5+1);have f2:=F.chans.cR (i*5+2);have f3:=F.chans.cR (i*5+3);have f4:=F.chans.cR (i*5+4);rw[oP,Nat.zero_add]at M z o C s;dsimp only at z o C s;have P:g≠u:=hV.EA;have Cq:u≠g:=fun e=>P e.symm;clear hV hQ hP hB R S X qI oy Z lX m K V l7;clear M z o C s;obtain⟨ad,B9,d9,I,_,_,M,z,o,C,s⟩:=pU.row F.Fy HX;injection I with I
   subst I;rw[oP,Nat.zero_add]at M z o C s;dsimp only at z o C s;have aq:=fun i=>af.cell HC i;obtain⟨m,J,-⟩:=af.aM (ed.blk F);have K:=af.lt (ed.blk F);unfold nY at m;go_wp2;go_region;have N:=F.got Jk Y U.len fK;have Xi:=ba (ba HQ (b:=w.heap.size) (g:=u) aa [.int .i64 G.c.gen,.int .i64 G.c.cap,.bool G.c.used,.bool G.c.closed,.slice E G.c.buf.length d2] (i*5)) (g:=g) aa [.slice L h.waits.length Q] 2;have rZ:Below base w (aw (aw wc u (i*5) [.int .i64 G.c.gen,.int .i64 G.c.cap,.bool G.c.used,.bool G.c.closed,.slice E G.c.buf.length d2]) g 2 [.slice L h.waits.length Q]):=ax F.low _ _ _ (ax bo _ _ _ HB);have pW:Hid (lG w g (.slice (some ⟨u,0,none⟩) h.chans.length m1) (.slice A3 h.done.length m3) (aw (aw wc u (i*5) [.int .i64 G.c.gen,.int .i64 G.c.cap,.bool G.c.used,.bool G.c.closed,.slice E G.c.buf.length d2]) g 2 [.slice L h.waits.length Q]).drew):=(((lG.ext uw).Vd (q:=u) rfl (i*5) [.int .i64 G.c.gen,.int .i64 G.c.cap,.bool G.c.used,.bool G.c.closed,.slice E G.c.buf.length d2]).QO _ _).drew;have yX:=(aj (aw (aw wc u (i*5) [.int .i64 G.c.gen,.int .i64 G.c.cap,.bool G.c.used,.bool G.c.closed,.slice E G.c.buf.length d2]) g 2 [.slice L h.waits.length Q])).drew;obtain⟨yK,jV,zH,rI,je⟩:=dh (N.1.more yX) (N.2.1.below yX) (fun b h1 h2=>(N.2.2 b h1 h2).below yX) (Xi.ai yX) rZ.drew;clear N Xi rZ yX M z o C s f0 f1 f2 f3 f4 m J aq K HC F HQ Y HB;change Exit.then _ _ _ _ (aw (aw wc u (i*5) [.int .i64 G.c.gen,.int .i64 G.c.cap,.bool G.c.used,.bool G.c.closed,.slice E G.c.buf.length d2]) g 2 [.slice L h.waits.length Q]).drew;generalize(aw (aw wc u (i*5) [.int .i64 G.c.gen,.int .i64 G.c.cap,.bool G.c.used,.bool G.c.closed,.slice E G.c.buf.length d2]) g 2 [.slice L h.waits.length Q]).drew=w5 at *;go_wp2_with fail;go_fit (Hv _ yK D dd G.told rfl (bq U.told (bq S9 ag)) jV zH (fun x f=>by rw[bg.Y];exact U.th x f) Ra);rintro e w3 ⟨rfl,(Q7:Hid _),La,pK⟩;obtain⟨xf,gC⟩:=av (pW.tell (Nat.le_of_lt rI.lt) pK (Vc _ _ _ _ _)) (je.trans La);have lF:Hid (∀b,(Value.slice A3 (fV h.done G.told).length m3).ownBlock=some b->b≠w.heap.size):=by unfold Hid;rw[mr];exact jr.Y
   have m8:Hid (af w3 w 48 #[.int .i64 0,.int .i64 0,.int .i64 0,.int .i64 0]):=(pK w rI.lt (fun he=>lF _ he.symm rfl)).trans rI;clear La pK yK rI je jV zH;obtain⟨dR,dK,-⟩:=af.aM m8;have dN:=af.lt m8;obtain⟨m,J,-⟩:=af.aM (ed.blk Q7);have K:=af.lt (ed.blk Q7);unfold nY at m;clear J;go_wp2_with fail;have fh:=aQ (vs:=[.int .i64 0,.int .i64 0,.int .i64 G.r.code,.int .i64 0]) m8 rfl;have xC:=ed.Mq Q7 m8 ag ag ag ag ag lF 0 [.int .i64 0,.int .i64 0,.int .i64 G.r.code,.int .i64 0];have gv:Below base w (aw w3 w 0 [.int .i64 0,.int .i64 0,.int .i64 G.r.code,.int .i64 0]):=ax fK _ _ _ gC;change bodyPost _ _ _ _ _ (aw w3 w 0 [.int .i64 0,.int .i64 0,.int .i64 G.r.code,.int .i64 0]);have xD:=ue.Y _ (xf.new (q:=w.heap.size) aa 0 [.int .i64 0,.int .i64 0,.int .i64 G.r.code,.int .i64 0]);clear dR dK dN m K;generalize aw w3 w 0 [.int .i64 0,.int .i64 0,.int .i64 G.r.code,.int .i64 0]=wz at *;have fH:=fun i=>af.cell fh i;refine bodyPost_ret (v:=.agg #[.int .i64 0,.int .i64 0,.int .i64 G.r.code,.int .i64 0]) ?_ rfl ?_
   ·simp[results,results277,go_sem,fH]
   ·rw[HG.Y];exact⟨rfl,⟨_,_,xC⟩,gv,xD⟩
end
theorem lL.aeC{g:p9}{c:Nat}(h:lL g n base w B d A c D dd)(T:pY w w' q q 48 48):lL g n base w' B d A c D dd :=
 ⟨T.rd h.pP (fun b e a=>h.S5 b e (fun f=>a (by rw[f];rfl))) ag ag,fun b e a=>(T.ty (h.S5 b e a) ag ag).1,h.cap,T.yR aR h.own ag ag ag ag,
  T.rd h.Z9 (fun b e a=>h.QG b e (fun f=>a (by rw[f];rfl))) ag ag,fun b e a=>(T.ty (h.QG b e a) ag ag).1,h.L0⟩
section
variable(w:World)
theorem aav(x:Ch)(B:Option Addr)(p d:Nat)(s:p=x.buf.length)(z:p<=90000)(r:bJ w .i64 B x.buf)(A:Option Addr)(c:Nat)(o:List Wt)(F:n=o.length)(E:n<=90000)(G:iu w A o)(C:∀x∈o,x.cases.length<=90000)(t:Int)(a y:Int)(J:a=1\/a=2)(H:x.used=true)(I:dt x t o a=true) :
 Calls prog 294 #[.agg #[.int .i64 x.gen,.int .i64 x.cap,.bool x.used,.bool x.closed,.slice B p d],.int .i64 t,.slice A n c,.int .i64 a,.int .i64 y] w (qG (xm x t o a y) n w):=by
 rcases J with rfl|rfl
 ·exact U7 w x B p d s z r A c o F E G C t y H I
 ·exact U8 w x B p d s z r A c o F E G C t y H I
end
def acC(w:World)(base g C:Nat)(c:bA)(A:Option Addr)(n k:Nat)(t J:Int)(h:Hl)(y z:Option Addr)(E F H:Nat)(G:p9)(I o r s:Value)(a:World):Prop :=
 ∃p q B2 d2 A4 m4 D dd,I=.pointer (some ⟨p,0,none⟩)/\o=.slice A4 h.waits.length m4/\r=.pointer (some ⟨q,0,none⟩)/\s=.slice D G.told.length dd /\
  af a p 83 #[.int .i64 G.c.gen,.int .i64 G.c.cap,.bool G.c.used,.bool G.c.closed,.slice B2 G.c.buf.length d2]/\af a q 48 #[.int .i64 G.r.seq,.int .i64 G.r.cs,.int .i64 G.r.code,.int .i64 G.r.value]/\ed a base g c A n k t J h (some ⟨C,0,none⟩) y z E F H/\af a (w.heap.size+1) 48 #[.int .i64 0,.int .i64 0,.int .i64 0,.int .i64 0]/\lL G h.waits.length w a B2 d2 A4 m4 D dd/\Below w w a/\w.heap.size+1<p/\w.heap.size+1<q/\(p<q\/q<p)
section
variable(w:World) {base g:Nat} {c:Mo.bA} {A:Option Addr} {n k:Nat} {t sq:Int} {h:Mo.Hl} {A1 A2 A3:Option Addr} {m1 m2 m3:Nat}
theorem Rc(H:ed w base g c A n k t sq h A1 A2 A3 m1 m2 m3)(K:Vb h)(r:Nat)(o:Cs)(CF:o.1=1\/o.1=2)(j5:h.done.length=h.waits.length)(T:h.done≠[])(Z:bW h o.2.1=some i)(mV:dt (gm h i) o.2.1 h.waits o.1=true) :
 Calls prog 287 #[.pointer (some ⟨g,0,none⟩),.int .i64 r,.agg #[.int .i64 o.1,.int .i64 o.2.1,.int .i64 o.2.2]] w (NL base g c A n k t sq A1 A3 m1 m3 (wJ h r o) w):=by
 have bM:Hid (Below w w ((w.alloc (.cells #[.int .i64 o.1,.int .i64 o.2.1,.int .i64 o.2.2] 110)).alloc jo)):=ak (ak (aj w) _) _
 have jc:Hid (af ((w.alloc (.cells #[.int .i64 o.1,.int .i64 o.2.1,.int .i64 o.2.2] 110)).alloc jo) w 110 #[.int .i64 o.1,.int .i64 o.2.1,.int .i64 o.2.2]):=(af.new _ _ _).alloc _
 have l7:Hid (af ((w.alloc (.cells #[.int .i64 o.1,.int .i64 o.2.1,.int .i64 o.2.2] 110)).alloc jo) (w.heap.size+1) 48 #[.int .i64 0,.int .i64 0,.int .i64 0,.int .i64 0]):=(af.newAt _ _ _ aD)
 obtain⟨xh,ue,rh⟩:=aZ (H.more bM) H.S8 H.wH
 have fK:base<=w.heap.size:=bq H.low (Nat.le_of_lt H.blk.lt)
 have LL:g<w.heap.size:=H.blk.lt
 obtain⟨oy,b5,Ra⟩:=aZ (fun a (xc:Below w w a)=>oz a h.az A1 m1 h.chans rfl ((H.more xc).Fy) (.slice A2 h.waits.length m2) (.slice A3 h.done.length m3) h.waits h.done o.2.1) j5 T
 clear j5 T
 have jr:=ae (fun b K=>Nat.ne_of_lt (rh.2.2.2 b K))
 have e0:bW ⟨h.az,h.chans,h.waits,h.done⟩ o.2.1=some i:=Z
 rw[e0]at oy
 clear e0
 obtain⟨x,f,hu,bR⟩:=oC Z
 clear bR
 have OX:x.buf.length<=90000:=K.buf x (bX f)
 have aq:gm h i=x:=by unfold gm;rw[cZ,f];rfl
 rw[aq]at mV
 have Rb:=ae (fun a (xc:Below w w a) (B:Option Addr) (d:Nat) (Fl:bJ a .i64 B x.buf)=>(aav a x B x.buf.length d rfl OX Fl A2 m2 h.waits rfl (bq K.waits ag) ((H.more xc).XT) (fun y hy=>K.cases y hy) o.2.1 o.1 o.2.2 CF hu mV).mono (fun _ _ hq=>qG.p hq))
 obtain⟨G,R⟩:=aG (xm x o.2.1 h.waits o.1 o.2.2)
 have HG:Hid (wJ h r o=({h with chans:=h.chans.set i G.c,waits:=G.l,done:=fV h.done G.told},{G.r with cs:=r})):=by unfold Hid wJ;rw[Z];dsimp only[Option.getD_some];rw[aq,R]
 have X:Hid (Mr G h.waits):=by rw[R];exact acA _ _ _ _ _
 rw[<-R]at Rb
 have HX:=ae f
 have Jk:i<h.chans.length:=dv f
 have S9:h.waits.length<=19:=K.waits
 have na:((w.alloc (.cells #[.int .i64 o.1,.int .i64 o.2.1,.int .i64 o.2.2] 110)).alloc jo).heap.size=w.heap.size+1+1:=aD
 obtain⟨w0,bY⟩:=aG ((w.alloc (.cells #[.int .i64 o.1,.int .i64 o.2.1,.int .i64 o.2.2] 110)).alloc jo)
 clear H K aq R Z mV CF
 go_enter func287,ntmps287
 go_wp2_with fail
 rw[<-bY]at bM jc l7 xh na ⊢
 have a8:=ae (fun a (f:Ext w0 a)=>oy a (ai bM f.Y))
 have N:=fun a (f:Ext w0 a) i=>af.cell (ed.blk (xh.more f.Y)) i
 have gD:=fun a (f:Ext w0 a) i=>af.cell (jc.ai f.Y) i
 unfold nY at N
 have cz:g<w0.heap.size:=aa
 clear bY oy
 go_region_held3(Ext w0) (with_reducible(first|assumption|exact Ext.start _)) (((with_reducible go_fit (a8.Y _ (by assumption)));rintro e j ⟨rfl,bg⟩;have kX:=Ext.to (by assumption) bg))
 have xx:Hid (Ext w0 j):=kX
 clear N gD kX a8
 obtain⟨U,oD,jw,fY⟩:=bN (ai bM xx.Y) (xh.more xx.Y) (l7.ai xx.Y) (jc.ai xx.Y)
 clear bg bM xh l7 jc
 obtain⟨u,mm,hv,(b6:Hid _),cw⟩:=oD.chans.form (by have:=bX HX;intro he;rw[he]at this;cases this)
 injection hv with e1 J e3
 subst e1 e3
 clear J
 obtain⟨ad,B,d,hA,Ep,(lX:Hid _),c0,P,L,Q,M⟩:=pU.row oD.Fy f
 injection hA with hA
 subst hA
 rw[oP,Nat.zero_add]at c0 P L Q M
 dsimp only at P L Q M
 have cy:u<w.heap.size:=rh.2.1 u rfl
 rw[hu]at L Rb
 generalize x.buf.length=bl at M Rb
 have i1:(0:Int)<=(i:Int):=aa
 have i2:(i:Int)<(h.chans.length:Int):=aa
 clear f hu Ep OX
 have Ee:w.heap.size+1<j.heap.size:=jw.lt
 go_wp2_with fail
 go_upto_region 2 with fail
 go_cut[9,10,11,12] (fun s9 cn ct cv a=>acC w base g u c A n k t sq h A2 A3 m1 m2 m3 G s9 cn ct cv a)
 case first =>
  obtain⟨W,Fz,Mt⟩:=aZ (fun a (f:Ext j a)=>oD.more f.Y) (fun a (f:Ext j a)=>jw.ai f.Y) (fun a (f:Ext j a)=>Rb a (ai U f.Y) B d (lX.below f.Y));have N:=fun a (f:Ext j a) i=>af.cell (ed.blk (W a f)) i;have gD:=fun a (f:Ext j a) i=>af.cell (fY.ai f.Y) i;unfold nY at N;have d0:=fun a (f:Ext j a)=>f.cell c0;have d1:=fun a (f:Ext j a)=>f.cell P;have d2:=fun a (f:Ext j a)=>f.cell L;have d3:=fun a (f:Ext j a)=>f.cell Q;have d4:=fun a (f:Ext j a)=>f.cell M;have b7:Hid (af (j.alloc rB).drew j 83 #[.int .i64 0,.int .i64 0,.bool false,.bool false,.slice none 0 0]):=af.new j 83 #[.int .i64 0,.int .i64 0,.bool false,.bool false,.slice none 0 0];have iT:Hid (af (j.alloc jo).drew j 48 #[.int .i64 0,.int .i64 0,.int .i64 0,.int .i64 0]):=af.new j 48 #[.int .i64 0,.int .i64 0,.int .i64 0,.int .i64 0];have CG:Hid (af ((j.alloc rB).alloc jo).drew j 83 #[.int .i64 0,.int .i64 0,.bool false,.bool false,.slice none 0 0]):=(af.new j 83 #[.int .i64 0,.int .i64 0,.bool false,.bool false,.slice none 0 0]).alloc jo;have jh:Hid (af ((j.alloc rB).alloc jo).drew (j.heap.size+1) 48 #[.int .i64 0,.int .i64 0,.int .i64 0,.int .i64 0]):=af.newAt (j.alloc rB) 48 #[.int .i64 0,.int .i64 0,.int .i64 0,.int .i64 0] aD;have NJ:Hid (af ((j.alloc jo).alloc rB).drew (j.heap.size+1) 83 #[.int .i64 0,.int .i64 0,.bool false,.bool false,.slice none 0 0]):=af.newAt (j.alloc jo) 83 #[.int .i64 0,.int .i64 0,.bool false,.bool false,.slice none 0 0] aD;have fZ:Hid (af ((j.alloc jo).alloc rB).drew j 48 #[.int .i64 0,.int .i64 0,.int .i64 0,.int .i64 0]):=(af.new j 48 #[.int .i64 0,.int .i64 0,.int .i64 0,.int .i64 0]).alloc rB;clear c0 P L Q M;go_region_held3(Ext j) (with_reducible(repeat(first|assumption|exact Ext.start _|exact Ext.gR _ _|exact Ext.CE _ _ _|refine Ext.alloc ?_ _|refine Ext.set ?_ (by simp;try omega)))) (((with_reducible refine(Mt.Y _ (by assumption)).mono ?_);rintro e w2 ⟨l,J,s,C,D,V,rfl,hP,m⟩;have xg:=Ext.to (by assumption) m;have O:=ae hP;(try(have z:=ae (b7.Y.ai m);have S:=fun i=>af.cell z.Y i;have bo:=fun i=>af.free z.Y i;have jM:=af.lt z.Y));(try(have E:=ae (iT.Y.ai m);have Xq:=fun i=>af.cell E.Y i;have Z:=fun i=>af.free E.Y i;have bz:=af.lt E.Y));(try(have z:=ae (CG.Y.ai m);have S:=fun i=>af.cell z.Y i;have bo:=fun i=>af.free z.Y i;have jM:=af.lt z.Y));(try(have E:=ae (jh.Y.ai m);have Xq:=fun i=>af.cell E.Y i;have Z:=fun i=>af.free E.Y i;have bz:=af.lt E.Y));(try(have z:=ae (NJ.Y.ai m);have S:=fun i=>af.cell z.Y i;have bo:=fun i=>af.free z.Y i;have jM:=af.lt z.Y));(try(have E:=ae (fZ.Y.ai m);have Xq:=fun i=>af.cell E.Y i;have Z:=fun i=>af.free E.Y i;have bz:=af.lt E.Y));clear hP))
  ·go_wp2;go_meet;have hz:=(Ext.Y xg).size;refine⟨_,_,l,J,s,C,D,V,rfl,rfl,rfl,rfl,?_,?_,W.Y _ (by assumption),Fz.Y _ (by assumption),?_,ai U.Y (Ext.Y (by assumption)),by omega,by omega,by omega⟩
   ·exact(af.new _ _ _).alloc _
   ·exact af.newAt _ _ _ aD
   ·exact(O.bD (base':=w.heap.size) (by simp;omega)).more (ak (ak (aj _) _) _)
  ·go_wp2;go_meet;have hz:=(Ext.Y xg).size;refine⟨_,_,l,J,s,C,D,V,rfl,rfl,rfl,rfl,?_,?_,W.Y _ (by assumption),Fz.Y _ (by assumption),?_,ai U.Y (Ext.Y (by assumption)),by omega,by omega,by omega⟩
   ·exact af.newAt _ _ _ aD
   ·exact(af.new _ _ _).alloc _
   ·exact(O.bD (base':=w.heap.size) (by simp;omega)).more (ak (ak (aj _) _) _)
  ·go_wp2;go_meet;have hz:=(Ext.Y xg).size;have F:=pY.one (v1:=[.int .i64 G.c.gen,.int .i64 G.c.cap,.bool G.c.used,.bool G.c.closed,.slice l G.c.buf.length J]) z rfl;refine⟨_,_,l,J,s,C,D,V,rfl,rfl,rfl,rfl,?_,?_,W.Y _ (by assumption),Fz.Y _ (by assumption),?_,ai U.Y (Ext.Y (by assumption)),by omega,by omega,by omega⟩
   ·exact F.2.alloc _
   ·exact af.newAt _ _ _ aD
   ·exact((O.bD (base':=w.heap.size) (by simp;omega)).one F.1).more (ak (aj _) _)
  ·go_wp2;go_meet;have hz:=(Ext.Y xg).size;have F:=pY.mk' (v1:=[.int .i64 G.c.gen,.int .i64 G.c.cap,.bool G.c.used,.bool G.c.closed,.slice l G.c.buf.length J]) (v2:=[.int .i64 G.r.seq,.int .i64 G.r.cs,.int .i64 G.r.code,.int .i64 G.r.value]) z E aa rfl rfl;refine⟨_,_,l,J,s,C,D,V,rfl,rfl,rfl,rfl,?_,?_,W.Y _ (by assumption),Fz.Y _ (by assumption),?_,ai U.Y (Ext.Y (by assumption)),by omega,by omega,by omega⟩
   ·exact F.2.1
   ·exact F.2.2
   ·exact(O.bD (base':=w.heap.size) (by simp;omega)).two F.1
  ·go_wp2;go_meet;have hz:=(Ext.Y xg).size;have F:=pY.one (v1:=[.int .i64 G.r.seq,.int .i64 G.r.cs,.int .i64 G.r.code,.int .i64 G.r.value]) E rfl;refine⟨_,_,l,J,s,C,D,V,rfl,rfl,rfl,rfl,?_,?_,W.Y _ (by assumption),Fz.Y _ (by assumption),?_,ai U.Y (Ext.Y (by assumption)),by omega,by omega,by omega⟩
   ·exact af.newAt _ _ _ aD
   ·exact F.2.alloc _
   ·exact((O.bD (base':=w.heap.size) (by simp;omega)).aeC F.1).more (ak (aj _) _)
  ·go_wp2;go_meet;have hz:=(Ext.Y xg).size;have F:=pY.mk' (v1:=[.int .i64 G.c.gen,.int .i64 G.c.cap,.bool G.c.used,.bool G.c.closed,.slice l G.c.buf.length J]) (v2:=[.int .i64 G.r.seq,.int .i64 G.r.cs,.int .i64 G.r.code,.int .i64 G.r.value]) z E aa rfl rfl;refine⟨_,_,l,J,s,C,D,V,rfl,rfl,rfl,rfl,?_,?_,W.Y _ (by assumption),Fz.Y _ (by assumption),?_,ai U.Y (Ext.Y (by assumption)),by omega,by omega,by omega⟩
   ·exact F.2.1
   ·exact F.2.2
   ·exact(O.bD (base':=w.heap.size) (by simp;omega)).two F.1
 case rest =>
  obtain⟨p,q,l,d2,s,C,D,V,rfl,rfl,rfl,rfl,(HC:Hid _),hR,hV,hQ,hP,hB,hp,hq,cC⟩:=hcut;obtain⟨HR,I,HQ,O,HB,uw⟩:=cT hR hV hQ hP (hB.mono fK) hB;have T:g≠u:=hV.EA;have Cq:u≠g:=fun e=>T e.symm;clear hR hV hQ hP hB oD jw U fY xx Rb lX c0 P L Q M;obtain⟨ad,B9,d9,hA,_,_,c0,P,L,Q,M⟩:=pU.row I.Fy HX;injection hA with hA
  subst hA;have f0:=I.chans.cR (i*5);have f1:=I.chans.cR (i*5+1);have f2:=I.chans.cR (i*5+2);have f3:=I.chans.cR (i*5+3);have f4:=I.chans.cR (i*5+4);rw[oP,Nat.zero_add]at c0 P L Q M;dsimp only at P L Q M;have S:=fun i=>af.cell HC i;obtain⟨N,a6,-⟩:=af.aM (ed.blk I);have gO:=af.lt (ed.blk I);unfold nY at N;go_wp2;go_region;have R:=I.got Jk O X.len fK;have Xi:=ba (ba HQ (b:=w.heap.size+1) (g:=u) aa [.int .i64 G.c.gen,.int .i64 G.c.cap,.bool G.c.used,.bool G.c.closed,.slice l G.c.buf.length d2] (i*5)) (g:=g) aa [.slice s h.waits.length C] 2;have FA:=ba (ba HR (b:=q) (g:=u) aa [.int .i64 G.c.gen,.int .i64 G.c.cap,.bool G.c.used,.bool G.c.closed,.slice l G.c.buf.length d2] (i*5)) (g:=g) aa [.slice s h.waits.length C] 2;have rZ:Below base w (aw (aw wc u (i*5) [.int .i64 G.c.gen,.int .i64 G.c.cap,.bool G.c.used,.bool G.c.closed,.slice l G.c.buf.length d2]) g 2 [.slice s h.waits.length C]):=ax I.low _ _ _ (ax b6 _ _ _ HB);have pW:Hid (lG w g (.slice (some ⟨u,0,none⟩) h.chans.length m1) (.slice A3 h.done.length m3) (aw (aw wc u (i*5) [.int .i64 G.c.gen,.int .i64 G.c.cap,.bool G.c.used,.bool G.c.closed,.slice l G.c.buf.length d2]) g 2 [.slice s h.waits.length C]).drew):=(((lG.ext uw).Vd (q:=u) rfl (i*5) [.int .i64 G.c.gen,.int .i64 G.c.cap,.bool G.c.used,.bool G.c.closed,.slice l G.c.buf.length d2]).QO _ _).drew;have yX:=(aj (aw (aw wc u (i*5) [.int .i64 G.c.gen,.int .i64 G.c.cap,.bool G.c.used,.bool G.c.closed,.slice l G.c.buf.length d2]) g 2 [.slice s h.waits.length C])).drew;obtain⟨yK,jV,zH,rI,Y,je⟩:=cT (R.1.more yX) (R.2.1.below yX) (fun b h1 h2=>(R.2.2 b h1 h2).below yX) (Xi.ai yX) (FA.ai yX) rZ.drew;clear R Xi FA rZ yX c0 P L Q M f0 f1 f2 f3 f4 N a6 S gO HC HR I HQ O HB;change Exit.then _ _ _ _ (aw (aw wc u (i*5) [.int .i64 G.c.gen,.int .i64 G.c.cap,.bool G.c.used,.bool G.c.closed,.slice l G.c.buf.length d2]) g 2 [.slice s h.waits.length C]).drew;generalize(aw (aw wc u (i*5) [.int .i64 G.c.gen,.int .i64 G.c.cap,.bool G.c.used,.bool G.c.closed,.slice l G.c.buf.length d2]) g 2 [.slice s h.waits.length C]).drew=w5 at *;go_wp2_with fail;go_fit (Hv _ yK D V G.told rfl (bq X.told (bq S9 ag)) jV zH (fun x f=>by rw[b5.Y];exact X.th x f) Ra);rintro e w3 ⟨rfl,(Q7:Hid _),La,pK⟩;obtain⟨xf,gC⟩:=av (pW.tell (by have:=rI.lt;omega) pK (Vc _ _ _ _ _)) (je.trans La);have lF:Hid (∀b,(Value.slice A3 (fV h.done G.told).length m3).ownBlock=some b->b<w.heap.size):=by unfold Hid;rw[mr];exact rh.2.2.2
  have m8:Hid (af w3 (w.heap.size+1) 48 #[.int .i64 0,.int .i64 0,.int .i64 0,.int .i64 0]):=(pK (w.heap.size+1) rI.lt (fun he=>absurd (lF _ he.symm) aa)).trans rI;have Mu:Hid (af w3 q 48 #[.int .i64 G.r.seq,.int .i64 G.r.cs,.int .i64 G.r.code,.int .i64 G.r.value]):=(pK q Y.lt (fun he=>absurd (lF _ he.symm) aa)).trans Y;clear La pK yK rI Y je jV zH;obtain⟨kM,uo,-⟩:=af.aM Mu;have cd:=af.lt Mu;obtain⟨dR,dK,-⟩:=af.aM m8;have dN:=af.lt m8;obtain⟨N,a6,-⟩:=af.aM (ed.blk Q7);have gO:=af.lt (ed.blk Q7);unfold nY at N;clear a6;go_wp2_with fail;obtain⟨b8,a7⟩:=av (ed.Mq Q7 Mu ag ag ag ag ag (fun b K=>Nat.ne_of_lt (bL (lF b K) aa)) 1 [.int .i64 r]) (ba m8 (b:=w.heap.size+1) (g:=q) aa [.int .i64 r] 1);have xe:Hid (Below base w (aw w3 q 1 [.int .i64 r])):=ax aa _ _ _ gC;have JY:=ae (fun b K=>Nat.ne_of_lt (Nat.lt_succ_of_lt (lF b K)));clear kM uo cd;have fh:=aQ (vs:=[.int .i64 G.r.seq,.int .i64 r,.int .i64 G.r.code,.int .i64 G.r.value]) a7 rfl;have xC:=ed.Mq b8 a7 ag ag ag ag ag JY 0 [.int .i64 G.r.seq,.int .i64 r,.int .i64 G.r.code,.int .i64 G.r.value];have gv:Below base w (aw (aw w3 q 1 [.int .i64 r]) (w.heap.size+1) 0 [.int .i64 G.r.seq,.int .i64 r,.int .i64 G.r.code,.int .i64 G.r.value]):=ax (Nat.le_succ_of_le fK) _ _ _ xe;change bodyPost _ _ _ _ _ (aw (aw w3 q 1 [.int .i64 r]) (w.heap.size+1) 0 [.int .i64 G.r.seq,.int .i64 r,.int .i64 G.r.code,.int .i64 G.r.value]);have xD:=ue.Y _ ((xf.new (q:=q) aa 1 [.int .i64 r]).new (q:=(w.heap.size+1)) aa 0 [.int .i64 G.r.seq,.int .i64 r,.int .i64 G.r.code,.int .i64 G.r.value]);clear dR dK dN N gO;generalize aw (aw w3 q 1 [.int .i64 r]) (w.heap.size+1) 0 [.int .i64 G.r.seq,.int .i64 r,.int .i64 G.r.code,.int .i64 G.r.value]=wz at *;have fH:=fun i=>af.cell fh i;refine bodyPost_ret (v:=.agg #[.int .i64 G.r.seq,.int .i64 r,.int .i64 G.r.code,.int .i64 G.r.value]) ?_ rfl ?_
  ·simp[results,results287,go_sem,fH]
  ·rw[HG.Y];exact⟨rfl,⟨_,_,xC⟩,gv,xD⟩
end
theorem Bj{a:List Cs}(b:a≠[])(p:a.length<=3)(o:∀k∈a,Mo.j7 k=true):eP h a=if(a.any fun k=>(bW h k.2.1).isNone)=true then 8 else 0:=by unfold eP;rw[ah (by rintro(e|e);exact b (List.length_eq_zero_iff.1 e);omega),ah];intro e;obtain⟨k,c,e⟩:=List.any_eq_true.1 e;have:=oa.1 (o k c);simp only[Bool.or_eq_true,cA,bne_iff_ne,bP]at e;omega
theorem Re{a:List Cs}(o:a.length<=3)(r:∀k∈a,Mo.j7 k=true){z:Cs}(b:a[j]?=some z)(p:bW h z.2.1=none):eP h a=8:=by rw[Bj (by rintro rfl;cases b) o r,au];exact List.any_eq_true.2 ⟨z,dB b,by rw[p];rfl⟩
theorem Rg{a:List Cs}(o:a≠[])(p:a.length<=3)(s:∀k∈a,Mo.j7 k=true)(r:∀(j:Nat) (z:Cs),j<a.length->a[j]?=some z->(bW h z.2.1).isSome=true):eP h a=0:=by rw[Bj o p s,ah];intro e;obtain⟨k,d,e⟩:=List.any_eq_true.1 e;obtain⟨j,b,f⟩:=List.mem_iff_getElem.1 d;have:=r j k b (by rw[cY b,f]);cases c:bW h k.2.1<;>rw[c]at e this<;>simp at e this
section
variable(w:World) {base g:Nat} {c:Mo.bA} {A:Option Addr} {n k:Nat} {t sq:Int} {h:Mo.Hl} {A1 A2 A3:Option Addr} {m1 m2 m3:Nat}
theorem Mw(H:ed w base g c A n k t sq h A1 A2 A3 m1 m2 m3)(o:List Cs)(D:Option Addr)(a qd:Nat)(Q:a=o.length)(hr:dI w bC D o)(hm:∀k∈o,Mo.j7 k=true)(Y:o.length<=3) :
 Calls prog 285 #[.pointer g,.slice D a qd] w (XM (eP h o) w):=by
 have LL:g<w.heap.size:=H.blk.lt
 obtain⟨oy,HV,T,K,v,R⟩:=cT (fun f (xc:Below w w f) hd=>oz f h.az A1 m1 h.chans rfl ((H.more xc).Fy) (.slice A2 h.waits.length m2) (.slice A3 h.done.length m3) h.waits h.done hd) H hr hm Q Y
 have tW:a<=3:=aa
 clear H hr hm Q Y
 by_cases r:o=[]
 ·have E:a=0:=by have:=v.Y;rw[r]at this;exact this
  subst E;have J:Hid (eP h o=1):=by unfold Hid;rw[r];rfl
  clear r oy;go_enter func285,ntmps285;go_wp2;go_ret;exact⟨kR J.symm,aj w⟩
 ·have KN:0<a:=by have:=v.Y;have:=List.length_pos_iff.2 r;omega
  have E:((a:Int)==0)=false:=by simp;omega
  have H0:=ae r;clear r;go_enter func285,ntmps285;go_wp2;go_loopw[21] (fun i wr=>∃j:Nat,j<=a/\i=j/\Hid (Below w w wr)) (fun i _=>a-(intOf i).toNat);case atStart=>exact⟨0,aV _,rfl,aj w⟩
  case round =>
   obtain⟨j,Z,rfl,d⟩:=hrel;by_cases p:j<a
   ·obtain⟨ad,z,M,hz,hcell⟩:=dI.at_ iD ag (T.below d) (i:=j) (by rw[<-v.Y];exact p);have q:=oa.1 (K z (dB hz));have y:=hcell 0 _ rfl;have B:=hcell 1 _ rfl;have C:=hcell 2 _ rfl;simp only[add_zero]at y;rw[add_lit _ _ ag]at B C;subst M;obtain⟨z0,z1,P⟩:=z;dsimp only at y B C q;have v0:¬P<0:=aa;have v1:¬(4294967295:Int)<P:=aa;clear hcell hz;have l:=ae (ak d (.cells #[z0,z1,P] 110));rcases q.1 with V|V
    all_goals
     subst V;clear q;go_wp2;go_roundw;case rel=>exact⟨j+1,aa,by go_num,l⟩
     case measure=>simp[intOf];omega
   ·skip;go_wp2;go_loopw[46] (fun i wr=>∃j:Nat,j<=a/\i=j/\Hid (Below w w wr)/\Hid (∀(i:Nat) (z:Cs),i<j->o[i]?=some z->(bW h z.2.1).isSome=true)) (fun i _=>a-(intOf i).toNat);case atStart=>exact⟨0,aV _,rfl,d,fun i z h=>absurd h (Nat.not_lt_zero _)⟩
    case round =>
     clear Z d;obtain⟨j,Z,rfl,d,S⟩:=hrel;by_cases p:j<a
     ·obtain⟨ad,z,M,(U:Hid _),hcell⟩:=dI.at_ iD ag (T.below d) (i:=j) (by rw[<-v.Y];exact p);have y:=hcell 0 _ rfl;have B:=hcell 1 _ rfl;have C:=hcell 2 _ rfl;simp only[add_zero]at y;rw[add_lit _ _ ag]at B C;subst M;have l:=ae (ak d (.cells #[z.1,z.2.1,z.2.2] 110));have u:Hid (af (wr.alloc (.cells #[z.1,z.2.1,z.2.2] 110)) wr 110 #[z.1,z.2.1,z.2.2]):=af.new _ _ _;have a7:=d.size;clear hcell;go_wp2_with fail;generalize(wr.alloc (.cells #[z.1,z.2.1,z.2.2] 110))=I at *;have x:=ae (fun f (F:Ext I f)=>oy f (ai l F.Y) z.2.1);have L:=fun f (F:Ext I f) i=>af.cell (ed.blk (HV.more (ai l F.Y))) i;have X:=fun f (F:Ext I f) i=>af.cell (u.ai F.Y) i;unfold nY at L;have aq:=ltW l LL;have a6:=u.lt;have W:bW ⟨h.az,h.chans,h.waits,h.done⟩ z.2.1=bW h z.2.1:=rfl;rw[W]at x;clear W y B C;rcases s:bW h z.2.1 with _|i
      ·rw[s]at x;have J:Hid (eP h o=8):=Re R K U s;clear s;go_region_held3(Ext I) (with_reducible(first|assumption|exact Ext.start _)) (((with_reducible go_fit (x.Y _ (by assumption)));rintro e w1 ⟨rfl,b⟩;have G:=Ext.to (by assumption) b));have O:=ae G;clear G b L X;go_wp2;go_ret;exact⟨kR J.symm,ai l O.Y⟩
      ·rw[s]at x;have HS:Hid ((bW h z.2.1).isSome=true):=by unfold Hid;rw[s];rfl
       clear s;go_region_held3(Ext I) (with_reducible(first|assumption|exact Ext.start _)) (((with_reducible go_fit (x.Y _ (by assumption)));rintro e w1 ⟨rfl,b⟩;have G:=Ext.to (by assumption) b));have O:=ae G;clear G b L X;go_wp2;go_roundw;case rel=>exact⟨j+1,aa,by go_num,ai l O.Y,fun N z' h1 m=>by
        by_cases e:N<j
        ·exact S.Y N z' e m
        ·have:N=j:=aa;subst this;rw[U.Y]at m;injection m with m
         subst m;exact HS.Y⟩
       case measure=>simp[intOf];omega
     ·go_wp2;go_ret;exact⟨kR (Rg H0 R K (fun i z h1 m=>S i z (by have:=v.Y;omega) m)).symm,d⟩
end
section
variable(w:World)
theorem VB(A:Option Addr)(c:Nat)(r:List Wt)(C:n=r.length)(I:n<=100000)(s:iu w A r)(G:∀x∈r,x.cases.length<=100000)(o:r[j]?=some x)(H:x.on=true)(F E:Int)(D:Option Addr)(z y:Nat) :
 Calls prog 288 #[.slice A n c,j,.agg #[false,F,E,.slice D z y]] w fun e w'=>∃v,e=.returned (.tuple #[v,false])/\Below w w w':=by
 obtain⟨g,B⟩:=av (ji (w.alloc (.cells #[false,F,E,.slice D z y] 79)) A c r C I (s.j6 aR (ak (aj w) _)) G) o
 have p:j<n:=by rw[C];exact dv o
 obtain⟨d,h⟩:=av (fun w'=>Cr w' A n c j aa) (fun w' (m:Below w w w')=>iu.row (s.j6 aR m) o)
 obtain⟨i,_,_,a,_⟩:=iu.row s o
 subst a
 have k:Hid (Below w w (w.alloc (.cells #[false,F,E,.slice D z y] 79))):=ak (aj w) _
 clear C s G o
 go_enter func288,ntmps288
 go_wp2_with fail
 refine g.mono ?_
 rintro e t ⟨v,rfl,u,K,rfl,l,b⟩
 have f:=ae (ai k b)
 clear l b g
 go_wp2_with fail
 go_fit (d _)
 rintro e L ⟨rfl,rfl⟩
 obtain⟨J,_,_,a,_,_,q,_⟩:=h.Y t f
 injection a with a
 subst a
 rw[H]at q
 clear H
 go_wp2
 go_ret2
 exact⟨_,rfl,f⟩
theorem Mx(x:Ch)(B:Option Addr)(s d:Nat)(r:s=x.buf.length)(G:x.used=true)(A:Option Addr)(c:Nat)(o:List Wt)(E:n=o.length)(C:n<=100000)(F:iu w A o)(z:∀x∈o,x.cases.length<=100000)(y a:Int)(H:a=1\/a=2) :
 Calls prog 286 #[.agg #[x.gen,x.cap,x.used,x.closed,.slice B s d],y,.slice A n c,a] w fun e w'=>e=.returned (dt x y o a)/\Below w w w':=by
 rcases H with rfl|rfl
 ·exact yP w x B s d r G A c o E C F z y
 ·exact yQ w x B s d r G A c o E C F z y
end
def Hx(h:Hl)(a:List Cs)(j:Nat):Prop:=∀(i:Nat) (z:Cs),i<j->a[i]?=some z->dt (gm h ((bW h z.2.1).getD 0)) z.2.1 h.waits z.1=false
theorem Hx.next{cs:List Cs}{z:Cs}(o:Hx h cs j)(C:cs[j]?=some z)(r:dt (gm h ((bW h z.2.1).getD 0)) z.2.1 h.waits z.1=false):Hx h cs (j+1):=fun i y b a=>by
 by_cases e:i<j
 ·exact o i y e a
 ·have:i=j:=aa;subst this;rw[C]at a;injection a with a
  subst a;exact r
theorem My{o:List Cs}(a:eP h o=0){k:Cs}(r:k∈o):∃i,bW h k.2.1=some i:=by
 unfold eP at a;split at a
 ·cases a
 ·split at a
  ·cases a
  ·split at a
   ·cases a
   ·rename_i b;cases e:bW h k.2.1 with
    |some i=>exact⟨i,rfl⟩
    |none=>exact absurd (List.any_eq_true.2 ⟨k,r,by rw[e];rfl⟩) b
theorem Hy{t:Int}{q:Rq}(r:eP h q.cases=0){z:Cs}(o:Hx h q.cases j)(a:q.cases[j]?=some z)(s:dt (gm h ((bW h z.2.1).getD 0)) z.2.1 h.waits z.1=true):ey h t seq q=wJ h j z:=by
 unfold ey;rw[ah (by rw[r];decide)];have:q.cases.findIdx? (fun k=>dt (gm h ((bW h k.2.1).getD 0)) k.2.1 h.waits k.1)=some j:=by
  have b:=dv a;rw[List.findIdx?_eq_some_iff_getElem];have e:q.cases[j]=z:=by rw[cY b]at a;injection a
  refine⟨b,by rw[e];exact s,fun i c=>?_⟩;have:=o i _ c (cY aa);simpa using this
 rw[this];dsimp only;rw[cZ,a];rfl
theorem EB{t:Int}{q:Rq}(r:eP h q.cases=0)(o:Hx h q.cases q.cases.length):ey h t seq q=if q.dflt=true then(h,bI 10)else if 4294967295<=h.az then(h,bI 7)else match wI h.waits t ⟨false,h.az,seq,q.cases⟩with|none=>(h,bI 13)|some l=>({h with waits:=l,az:=h.az+1},bI 14):=by
 unfold ey;rw[ah (by rw[r];decide)];have:q.cases.findIdx? (fun k=>dt (gm h ((bW h k.2.1).getD 0)) k.2.1 h.waits k.1)=none:=by rw[List.findIdx?_eq_none_iff];intro x b;obtain⟨i,a,e⟩:=List.mem_iff_getElem.1 b;have:=o i x a (by rw[cY a,e]);exact this
 rw[this];rfl
theorem ed.acE{t:Int}(H:ed w base g c A n k t sq h A1 A2 A3 m1 m2 m3){o:List Wt}(s:lB w base (.slice A4 o.length m4) o)(r:Int) :
 ed ((aw w g 2 [.slice A4 o.length m4]).setCell ⟨g,0,none⟩ r) base g c A n k t sq {h with waits:=o,az:=r} A1 A4 A3 m1 m4 m3:=by
 have d:=H.Q6 s
 have e:=d.blk
 have m:∀b,iU (aw w g 2 [.slice A4 o.length m4]) b->b≠g:=fun b a l=>by subst l;exact iU.not e ag ag a
 have f:Sm (iU (aw w g 2 [.slice A4 o.length m4])) (aw w g 2 [.slice A4 o.length m4]) ((aw w g 2 [.slice A4 o.length m4]).setCell ⟨g,0,none⟩ r):=fun b a=>dp _ _ _ _ (m b a)
 refine⟨e.bj 0 _,?_,?_,bK d.done e ag 0 _,d.low⟩
 ·exact(aI.move cP d.chans f (fun i j=>dp _ _ _ _ (aI.other d.chans e ag i j))).mono cP fun b a=>a.bj _ _
 ·exact(aI.move aR d.waits f (fun i j=>dp _ _ _ _ (aI.other d.waits e ag i j))).mono aR fun b a=>a.bj _ _
section
variable{w w1 w2:World} {base g:Nat} {c:Mo.bA} {A:Option Addr} {n k:Nat} {t sq:Int} {h:Mo.Hl} {A1 A2 A3:Option Addr} {m1 m2 m3:Nat}
theorem lG.trans(h:lG w g v1 v3 w1)(C:w.heap.size<=w1.heap.size)(r:lG w1 g v1 v3 w2):lG w g v1 v3 w2:=fun b e a c d=>(r b aa a c d).trans (h b e a c d)
theorem NL.pass{p:Hl×Rs}{e:Ending}{o:Option Addr}{s:Nat}(C:NL base g c A n k t sq A1 A3 m1 m3 p w1 e w2)(H:ed w base g c A n k t sq h A1 A2 A3 m1 m2 m3)(z:ed w1 base g c A n k t sq h A1 o A3 m1 s m3)(r:Below w w w1)(F:w.heap.size<=q){c1:List Value}(y:af w1 q 48 c1.toArray)(E:c1.length=4) :
 af w2 q 48 c1.toArray/\NL base g c A n k t sq A1 A3 m1 m3 p w (.returned (.agg #[p.2.seq,p.2.cs,p.2.code,p.2.value])) (aw w2 q 0 [p.2.seq,p.2.cs,p.2.code,p.2.value]) /\
 af (aw w2 q 0 [p.2.seq,p.2.cs,p.2.code,p.2.value]) q 48 #[p.2.seq,p.2.cs,p.2.code,p.2.value]:=by
 obtain⟨_,⟨j,x,m⟩,d,v⟩:=C
 have a:=H.wH
 have l:base<=w.heap.size:=bq H.low (Nat.le_of_lt H.blk.lt)
 have hF:=z.frX v
 have f:q≠g:=by have:=a.1;omega
 have i:af w2 q 48 c1.toArray:=(hF q y.lt f (fun h=>by have:=a.2.1 q h;omega) (fun h=>by have:=a.2.2.2 q h;omega)).trans y
 refine⟨i,⟨rfl,⟨j,x,m.Mq i ag ag ag ag ag (fun b d u=>?_) 0 _⟩,ax aa _ _ _ ((r.mono l).trans d),H.S8 _ (((lG.ext r).trans r.size hF).new F 0 _)⟩,aQ i E⟩
 subst u
 rw[Vc A3 _ _ h.done.length m3]at d
 have:=a.2.2.2 _ d
 omega
end
section
variable(w:World) {base g:Nat} {c:Mo.bA} {A:Option Addr} {n k:Nat} {t sq:Int} {h:Mo.Hl} {A1 A2 A3:Option Addr} {m1 m2 m3:Nat}
theorem Hz(H:ed w base g c A n k t sq h A1 A2 A3 m1 m2 m3)(hb:Vb h)(q:Rq)(D:Option Addr)(C P:Nat)(FC:C=q.cases.length)(hr:dI w bC D q.cases)(hq:Mo.bk q=true)(j5:h.done.length=h.waits.length)(ui:0<=t)(vK:t<h.waits.length)(Ds:0<=h.az/\h.az<=4294967295) :
 Calls prog 276 #[.pointer g,.agg #[q.kind,q.arg,q.value,q.dflt,.slice D C P]] w (NL base g c A n k t sq A1 A3 m1 m3 (ey h t sq q) w):=by
 have F:=kJ.1 hq
 obtain⟨HM,H3⟩:=av F.2.2.2.2 F.2.2.2.1
 clear F hq
 have bM:Hid (Below w w ((w.alloc (jx q D C P)).alloc jo)):=ak (ak (aj w) _) _
 have jc:Hid (af ((w.alloc (jx q D C P)).alloc jo) w 42 #[q.kind,q.arg,q.value,q.dflt,.slice D C P]):=(af.new _ _ _).alloc _
 have l7:Hid (af ((w.alloc (jx q D C P)).alloc jo) (w.heap.size+1) 48 #[oZ,oZ,oZ,oZ]):=(af.newAt _ _ _ aD)
 obtain⟨xh,rh⟩:=av (H.more bM) H.wH
 have Y:base<=w.heap.size:=bq H.low (Nat.le_of_lt H.blk.lt)
 have LL:g<w.heap.size:=H.blk.lt
 obtain⟨aq,HR,HN,bz,HH,vY⟩:=cT (Mw ((w.alloc (jx q D C P)).alloc jo) xh q.cases D C P FC (hr.below bM) HM H3) hr FC j5 hb H
 obtain⟨ue,fP⟩:=av H.S8 vK
 have na:((w.alloc (jx q D C P)).alloc jo).heap.size=w.heap.size+1+1:=aD
 obtain⟨w0,cv⟩:=aG ((w.alloc (jx q D C P)).alloc jo)
 have tW:C<=3:=by have:=H3.Y;omega
 clear H hb hr FC j5 vK
 go_enter func276,ntmps276
 go_wp2_with fail
 rw[<-cv]at bM jc l7 xh na aq ⊢
 have J:=fun i=>af.cell jc i
 have I:=af.lt jc
 clear cv
 go_wp2_with fail
 refine aq.mono ?_
 rintro e w1 ⟨rfl,m⟩
 obtain⟨br,oD,jw,fY⟩:=bN (ai bM m) (xh.more m) (l7.ai m) (jc.ai m)
 have Ee:w.heap.size+1<w1.heap.size:=jw.lt
 clear m bM xh l7 jc aq J I na
 by_cases T:eP h q.cases=0
 ·have HE:=ae T;rw[T];clear T;have r:=fun i=>af.cell fY i;obtain⟨V,Fz⟩:=av (fun a (f:Ext w1 a)=>oD.more f.Y) (fun a (f:Ext w1 a)=>jw.ai f.Y);have oy:=ae (fun a (f:Ext w1 a) hd=>oz a h.az A1 m1 h.chans rfl ((V a f).Fy) (.slice A2 h.waits.length m2) (.slice A3 h.done.length m3) h.waits h.done hd);go_wp2_with fail;clear r;go_loopw[23] (fun i wr=>∃j:Nat,j<=C/\i=j/\Hid (Ext w1 wr)/\Hid (Hx h q.cases j)) (fun i _=>C-(intOf i).toNat);case atStart=>exact⟨0,aV _,rfl,aj w1,fun i z h=>absurd h (Nat.not_lt_zero _)⟩
  case round =>
   obtain⟨j,hj,rfl,E,Xj⟩:=hrel;by_cases cC:j<C
   ·obtain⟨ad,z,hA,hz,hcell⟩:=dI.at_ iD ag (HR.below (ai br E)) (i:=j) (by rw[<-HN.Y];exact cC);have CF:z.1=1\/z.1=2:=(oa.1 (HM z (bX hz))).1;have c0:=hcell 0 _ rfl;have c1:=hcell 1 _ rfl;have c2:=hcell 2 _ rfl;simp only[add_zero]at c0;rw[add_lit _ _ ag]at c1 c2;subst hA;obtain⟨i,bg⟩:=My HE (bX hz);obtain⟨x,f,hu,cn⟩:=oC bg;clear cn;have b8:gm h i=x:=by unfold gm;rw[cZ,f];rfl
    obtain⟨HZ,HD,W,HX,bo,O⟩:=cT hz CF bg f b8 (Ext.alloc E (.cells #[z.1,z.2.1,z.2.2] 110));have X:Hid (af (wr.alloc (.cells #[z.1,z.2.1,z.2.2] 110)) wr 110 #[z.1,z.2.1,z.2.2]):=af.new _ _ _;have dS:=E.size;have Jk:i<h.chans.length:=dv f;clear hcell hz CF bg b8;go_wp2_with fail;generalize(wr.alloc (.cells #[z.1,z.2.1,z.2.2] 110))=w9 at *;have Vz:=ae (fun a (f:Ext w9 a)=>oy a (O.to f.Y) z.2.1);have o:=fun a (f:Ext w9 a) i=>af.cell (ed.blk (V a (O.to f.Y))) i;have r:=fun a (f:Ext w9 a) i=>af.cell (X.ai f.Y) i;unfold nY at o;have dP:g<w9.heap.size:=by have:=O.size;omega
    have dQ:=X.lt;have e9:bW ⟨h.az,h.chans,h.waits,h.done⟩ z.2.1=some i:=W.Y;rw[e9]at Vz;clear e9 c0 c1 c2;go_region_held3(Ext w9) (with_reducible(first|assumption|exact Ext.start _)) (((with_reducible go_fit (Vz.Y _ (by assumption)));rintro e R ⟨rfl,m⟩;have s:=Ext.to (by assumption) m));obtain⟨Rh,L⟩:=av (O.to s.Y) (X.ai s.Y);have df:=s.Y.size;clear s m o r O X Vz;obtain⟨dc,B,d,hA,Ep,mV,c0,c1,c2,c3,c4⟩:=pU.row (V _ Rh).Fy f;subst hA;obtain⟨bl,a8⟩:=aG x.buf.length;have M:=ae (fun a (U:Ext R a)=>Mx a x B bl d a8 hu A2 m2 h.waits rfl (bq HH.waits ag) (V a (Rh.to U.Y)).XT (fun y U=>bq (HH.cases y U) ag) z.2.1 z.1 HD);rw[<-a8]at c4;rw[hu]at c2 M;have i1:(0:Int)<=(i:Int):=aa;have i2:(i:Int)<(h.chans.length:Int):=aa;clear f a8 Ep mV hu;go_wp2_with fail;have o:=fun a (f:Ext R a) i=>af.cell (ed.blk (V a (Rh.to f.Y))) i;have r:=fun a (f:Ext R a) i=>af.cell (L.ai f.Y) i;unfold nY at o;have d0:=fun a (f:Ext R a)=>f.cell c0;have d1:=fun a (f:Ext R a)=>f.cell c1;have d2:=fun a (f:Ext R a)=>f.cell c2;have d3:=fun a (f:Ext R a)=>f.cell c3;have d4:=fun a (f:Ext R a)=>f.cell c4;have dg:g<R.heap.size:=aa;have dz:=L.lt;clear c0 c1 c2 c3 c4;rcases mV:dt x z.2.1 h.waits z.1 with _|_
    ·rw[mV]at M;have lX:Hid (dt (gm h ((bW h z.2.1).getD 0)) z.2.1 h.waits z.1=false):=by unfold Hid;rw[W.Y];dsimp only[Option.getD_some];rw[bo.Y];exact mV
     clear mV;go_region_held3(Ext R) (with_reducible(first|assumption|exact Ext.start _)) (((with_reducible go_fit (M.Y _ (by assumption)));rintro e cO ⟨rfl,m⟩;have s:=Ext.to (by assumption) m));have Mz:=ae (Rh.to s.Y);clear s m o r d0 d1 d2 d3 d4;go_wp2;go_roundw;case rel=>exact⟨j+1,aa,by go_num,Mz,Xj.next HZ lX⟩
     case measure=>simp[intOf];omega
    ·rw[mV]at M;have lX:Hid (dt (gm h i) z.2.1 h.waits z.1=true):=by unfold Hid;rw[bo.Y];exact mV
     have HG:Hid (ey h t sq q=wJ h j z):=Hy HE Xj HZ (by rw[W.Y];dsimp only[Option.getD_some];exact lX.Y);clear mV;go_region_held3(Ext R) (with_reducible(first|assumption|exact Ext.start _)) (((with_reducible go_fit (M.Y _ (by assumption)));rintro e cO ⟨rfl,m⟩;have s:=Ext.to (by assumption) m));obtain⟨Mz,bR⟩:=av (Rh.to s.Y) (L.ai s.Y);clear s m o r d0 d1 d2 d3 d4;obtain⟨r,-,LY⟩:=af.aM bR;go_wp2_with fail;have cd:h.done≠[]:=by have:=bz.Y;intro e;rw[e]at this;simp at this;have:=fP.Y;omega
     go_fit (Rc _ (V _ Mz) HH j z HD bz cd W lX);rintro e cw hE;have HP:=ae (hE.pass vY (V _ Mz) (ai br Mz) (q:=w.heap.size+1) (cj _) (c1:=[oZ,oZ,oZ,oZ]) (Fz _ Mz) rfl);have T:e=_:=hE.1;rw[<-HG.Y]at HP T;obtain⟨pp,EC⟩:=aG (ey h t sq q);rw[<-EC]at HP T;have cz:=ae EC;clear EC;subst T;clear hE r LY cd;obtain⟨J,F,-⟩:=af.aM HP.1;have I:=af.lt HP.1;go_wp2_with fail;have fH:=fun i=>af.cell HP.2.2 i;change bodyPost _ _ _ _ _ (aw cw (w.heap.size+1) 0 [pp.2.seq,pp.2.cs,pp.2.code,pp.2.value]);clear J F I;have XX:=ae HP.2.1;generalize aw cw (w.heap.size+1) 0 [pp.2.seq,pp.2.cs,pp.2.code,pp.2.value]=wz at *;refine bodyPost_ret (v:=.agg #[pp.2.seq,pp.2.cs,pp.2.code,pp.2.value]) ?_ rfl (by rw[<-cz.Y];exact XX.Y);exact mk5
   ·have vy:Hid (Hx h q.cases q.cases.length):=by
     have:=HN.Y;have:j=q.cases.length:=aa;unfold Hid;rw[<-this];exact Xj.Y
    obtain⟨HC,N,u,qM,Q⟩:=dh (EB (t:=t) (seq:=sq) HE vy) (V _ E) (Fz _ E) (fY.ai E) (ai br E)
    have UJ:=ae (Q.mono Y)
    obtain⟨r,-,LY⟩:=af.aM qM
    obtain⟨J,F,-⟩:=af.aM u
    have I:=af.lt u
    obtain⟨o,G,-⟩:=af.aM (ed.blk N)
    have S:=af.lt (ed.blk N)
    unfold nY at o
    clear Xj V Fz oy G
    cases K:q.dflt with
    |true =>
     rw[K]at r;have HG:Hid (ey h t sq q=(h,bI 10)):=by unfold Hid;rw[HC.Y,au K]
     clear K;go_wp2_with fail;clear r LY;have Z:=aQ (vs:=[oZ,oZ,.int .i64 10,oZ]) u rfl;have xC:=ed.bO N rh (cj _) u ag ag 0 [oZ,oZ,.int .i64 10,oZ];have gv:Below base w (aw wr (w.heap.size+1) 0 [oZ,oZ,.int .i64 10,oZ]):=ax (Nat.le_succ_of_le Y) _ _ _ UJ;change bodyPost _ _ _ _ _ (aw wr (w.heap.size+1) 0 [oZ,oZ,.int .i64 10,oZ]);have xD:=ue.Y _ ((lG.ext Q).new (q:=(w.heap.size+1)) aa 0 [oZ,oZ,.int .i64 10,oZ]);clear J F I o S;generalize aw wr (w.heap.size+1) 0 [oZ,oZ,.int .i64 10,oZ]=wz at *;have fH:=fun i=>af.cell Z i;refine bodyPost_ret (v:=.agg #[oZ,oZ,.int .i64 10,oZ]) ?_ rfl ?_
     ·exact mk5
     ·exact XV
    |false =>
     rw[K]at r;have jI:Hid (ey h t sq q=if 4294967295<=h.az then(h,bI 7)else match wI h.waits t ⟨false,h.az,sq,q.cases⟩with|none=>(h,bI 13)|some l=>({h with waits:=l,az:=h.az+1},bI 14)):=by unfold Hid;rw[HC.Y,ah (by rw[K];decide)]
     clear K;by_cases ct:4294967295<=h.az
     ·have HG:Hid (ey h t sq q=(h,bI 7)):=by unfold Hid;rw[jI.Y,au ct]
      go_wp2_with fail;clear r LY;have Z:=aQ (vs:=[oZ,oZ,.int .i64 7,oZ]) u rfl;have xC:=ed.bO N rh (cj _) u ag ag 0 [oZ,oZ,.int .i64 7,oZ];have gv:Below base w (aw wr (w.heap.size+1) 0 [oZ,oZ,.int .i64 7,oZ]):=ax (Nat.le_succ_of_le Y) _ _ _ UJ;change bodyPost _ _ _ _ _ (aw wr (w.heap.size+1) 0 [oZ,oZ,.int .i64 7,oZ]);have xD:=ue.Y _ ((lG.ext Q).new (q:=(w.heap.size+1)) aa 0 [oZ,oZ,.int .i64 7,oZ]);clear J F I o S;generalize aw wr (w.heap.size+1) 0 [oZ,oZ,.int .i64 7,oZ]=wz at *;have fH:=fun i=>af.cell Z i;refine bodyPost_ret (v:=.agg #[oZ,oZ,.int .i64 7,oZ]) ?_ rfl ?_
      ·exact mk5
      ·exact XV
     ·have sY:Hid (ey h t sq q=match wI h.waits t ⟨false,h.az,sq,q.cases⟩with|none=>(h,bI 13)|some l=>({h with waits:=l,az:=h.az+1},bI 14)):=by unfold Hid;rw[jI.Y,ah ct]
      obtain⟨JT,cy,Qf⟩:=aZ (fun a (f:Ext wr a)=>N.more f.Y) (fun a (f:Ext wr a)=>qM.ai f.Y) (fun a (f:Ext wr a)=>u.ai f.Y);obtain⟨tj,rfl⟩:∃tj:Nat,t=tj:=⟨t.toNat,aa⟩
      have cF:tj<h.waits.length:=by have:=fP.Y;omega
      obtain⟨y,U⟩:∃y,h.waits[tj]?=some y:=⟨_,cY cF⟩
      have HY:=ae U;clear U;go_wp2_with fail;clear o r J F I;have o:=fun a (f:Ext wr a) i=>af.cell (ed.blk (JT a f)) i;have r:=fun a (f:Ext wr a) i=>af.cell (cy a f) i;unfold nY at o;cases kK:y.on with
      |true =>
       have HG:Hid (ey h tj sq q=(h,bI 13)):=by unfold Hid;rw[sY.Y];unfold wI;rw[ah aa,gu,HY.Y];dsimp only;rw[au kK]
       have a7:=ae (fun a (f:Ext wr a)=>VB a A2 m2 h.waits rfl (bq HH.waits ag) (JT a f).XT (fun y U=>bq (HH.cases y U) ag) HY kK h.az sq D C P);clear kK;go_region_held3(Ext wr) (with_reducible(first|assumption|exact Ext.start _)) (((with_reducible go_fit (a7.Y _ (by assumption)));rintro e w5 ⟨v,rfl,m⟩;have s:=Ext.to (by assumption) m));have xy:=ae s;clear s m o r LY S;obtain⟨yK,rI,a6,je⟩:=bN (JT _ xy) (Qf _ xy) (ai Q xy) ((ai Q xy).mono Y);obtain⟨J,F,-⟩:=af.aM rI;have I:=af.lt rI;obtain⟨o,G,-⟩:=af.aM (ed.blk yK);have S:=af.lt (ed.blk yK);unfold nY at o;clear G;go_wp2_with fail;have Z:=aQ (vs:=[oZ,oZ,.int .i64 13,oZ]) rI rfl;have xC:=ed.bO yK rh (cj _) rI ag ag 0 [oZ,oZ,.int .i64 13,oZ];have gv:Below base w (aw w5 (w.heap.size+1) 0 [oZ,oZ,.int .i64 13,oZ]):=ax (Nat.le_succ_of_le Y) _ _ _ je;change bodyPost _ _ _ _ _ (aw w5 (w.heap.size+1) 0 [oZ,oZ,.int .i64 13,oZ]);have xD:=ue.Y _ ((lG.ext a6).new (q:=(w.heap.size+1)) aa 0 [oZ,oZ,.int .i64 13,oZ]);clear J F I o S;generalize aw w5 (w.heap.size+1) 0 [oZ,oZ,.int .i64 13,oZ]=wz at *;have fH:=fun i=>af.cell Z i;refine bodyPost_ret (v:=.agg #[oZ,oZ,.int .i64 13,oZ]) ?_ rfl ?_
       ·exact mk5
       ·exact XV
      |false =>
       have HG:Hid (ey h tj sq q=({h with waits:=h.waits.set tj ⟨true,h.az,sq,q.cases⟩,az:=h.az+1},bI 14)):=by unfold Hid;rw[sY.Y];unfold wI;rw[ah aa,gu,HY.Y];dsimp only;rw[ah (by rw[kK];decide)]
       have a7:=ae (fun a (f:Ext wr a)=>Qn a A2 m2 h.waits rfl (bq HH.waits ag) (JT a f).XT (fun y U=>bq (HH.cases y U) ag) HY kK h.az sq q.cases D C P HN (by have:=HN.Y;have:=H3.Y;omega) (HR.below (ai Q f.Y)));clear kK;go_region_held3(Ext wr) (with_reducible(first|assumption|exact Ext.start _)) (((with_reducible go_fit (a7.Y _ (by assumption)));rintro e w5 ⟨v,rfl,A5,m5,rfl,b7,m⟩;have s:=Ext.to (by assumption) m;have L8:=ae b7;clear b7));have xy:=ae s;have FD:(h.waits.set tj ⟨true,h.az,sq,q.cases⟩).length=h.waits.length:=cq;have b6:=ae (L8.bD (base':=base) (by have:=Q.size;simp;omega));rw[<-FD]at b6;clear s m o r LY S;obtain⟨yK,rI,a6,je⟩:=bN (JT _ xy) (Qf _ xy) (ai Q xy) ((ai Q xy).mono Y);obtain⟨J,F,-⟩:=af.aM rI;have I:=af.lt rI;obtain⟨o,G,-⟩:=af.aM (ed.blk yK);have S:=af.lt (ed.blk yK);unfold nY at o;have dM:h.az+1<=4294967295:=aa;go_wp2_with fail;obtain⟨b5,bY⟩:=av (yK.acE b6 (h.az+1)) ((ba rI (b:=w.heap.size+1) (g:=g) aa [.slice A5 h.waits.length m5] 2).bO (p:=⟨g,0,none⟩) (by show w.heap.size+1≠g;omega) (.int .i64 (h.az+1)));have xe:Hid (Below base w ((aw w5 g 2 [.slice A5 h.waits.length m5]).setCell ⟨g,0,none⟩ (.int .i64 (h.az+1)))):=(ax yK.low [.slice A5 h.waits.length m5] _ 2 je).setCell yK.low _;have NM:Hid (lG w g (.slice A1 h.chans.length m1) (.slice A3 h.done.length m3) ((aw w5 g 2 [.slice A5 h.waits.length m5]).setCell ⟨g,0,none⟩ (.int .i64 (h.az+1)))):=((lG.ext a6).QO 2 [.slice A5 h.waits.length m5]).QO 0 [.int .i64 (h.az+1)];rw[FD]at b5;have JY:=ae (fun b hb=>Nat.ne_of_lt (Nat.lt_succ_of_lt (rh.2.2.2 b hb)));clear G;have Z:=aQ (vs:=[oZ,oZ,.int .i64 14,oZ]) bY rfl;have xC:=ed.Mq b5 bY ag ag ag ag ag JY 0 [oZ,oZ,.int .i64 14,oZ];have gv:Below base w (aw ((aw w5 g 2 [.slice A5 h.waits.length m5]).setCell ⟨g,0,none⟩ (.int .i64 (h.az+1))) (w.heap.size+1) 0 [oZ,oZ,.int .i64 14,oZ]):=ax (Nat.le_succ_of_le Y) _ _ _ xe;change bodyPost _ _ _ _ _ (aw ((aw w5 g 2 [.slice A5 h.waits.length m5]).setCell ⟨g,0,none⟩ (.int .i64 (h.az+1))) (w.heap.size+1) 0 [oZ,oZ,.int .i64 14,oZ]);have xD:=ue.Y _ (NM.new (q:=(w.heap.size+1)) aa 0 [oZ,oZ,.int .i64 14,oZ]);clear J F I o S;generalize aw ((aw w5 g 2 [.slice A5 h.waits.length m5]).setCell ⟨g,0,none⟩ (.int .i64 (h.az+1))) (w.heap.size+1) 0 [oZ,oZ,.int .i64 14,oZ]=wz at *;have fH:=fun i=>af.cell Z i;refine bodyPost_ret (v:=.agg #[oZ,oZ,.int .i64 14,oZ]) ?_ rfl ?_
       ·exact mk5
       ·exact XV
 ·have HG:Hid (ey h t sq q=(h,bI (eP h q.cases))):=by unfold Hid ey;rw[au T]
  have d0:(eP h q.cases !=0)=true:=by simpa using T
  clear T;generalize eP h q.cases=ce at HG d0 ⊢;obtain⟨J,F,-⟩:=af.aM jw;have I:=af.lt jw;obtain⟨o,G,-⟩:=af.aM (ed.blk oD);have S:=af.lt (ed.blk oD);unfold nY at o;clear G;go_wp2_with fail;obtain⟨UJ,Q⟩:=av (br.mono Y) br;have Z:=aQ (vs:=[oZ,oZ,ce,oZ]) jw rfl;have xC:=ed.bO oD rh (cj _) jw ag ag 0 [oZ,oZ,ce,oZ];have gv:Below base w (aw w1 (w.heap.size+1) 0 [oZ,oZ,ce,oZ]):=ax (Nat.le_succ_of_le Y) _ _ _ UJ;change bodyPost _ _ _ _ _ (aw w1 (w.heap.size+1) 0 [oZ,oZ,ce,oZ]);have xD:=ue.Y _ ((lG.ext Q).new (q:=(w.heap.size+1)) aa 0 [oZ,oZ,ce,oZ]);clear J F I o S;generalize aw w1 (w.heap.size+1) 0 [oZ,oZ,ce,oZ]=wz at *;have fH:=fun i=>af.cell Z i;refine bodyPost_ret (v:=.agg #[oZ,oZ,ce,oZ]) ?_ rfl ?_
  ·exact mk5
  ·exact XV
end
section
variable(w:World) {base g:Nat} {c:Mo.bA} {A:Option Addr} {n k:Nat} {t sq:Int} {h:Mo.Hl} {A1 A2 A3:Option Addr} {m1 m2 m3:Nat}
theorem MA(H:ed w base g c A n k t sq h A1 A2 A3 m1 m2 m3)(K:Vb h)(Z:c.bt<=4095)(q:Rq)(D:Option Addr)(o p:Nat)(J:o=q.cases.length)(M:dI w bC D q.cases)(I:Mo.bk q=true)(C:h.done.length=h.waits.length)(ui:0<=t)(O:t<h.waits.length)(P:0<=h.az/\h.az<=4294967295) :
 Calls prog 264 #[.pointer g,.agg #[q.kind,q.arg,q.value,q.dflt,.slice D o p]] w (NL base g c A n k t sq A1 A3 m1 m3 (ia c h t sq q) w):=by
 have L:=(kJ.1 I).1
 obtain⟨f,a,b,d,j⟩:=q
 obtain⟨R,S,Q,x,y,u⟩:=cT I M J C K H;obtain⟨ue,W⟩:=av H.S8 O
 have z:h.done≠[]:=by intro e;rw[e]at C;simp at C;omega
 have T:=ae z
 dsimp only at L
 clear I M J C K O z
 have r:Hid (Below w w ((w.alloc (.cells #[f,a,b,d,.slice D o p] 42)).alloc jo)):=ak (ak (aj w) _) _
 have N:Hid (af ((w.alloc (.cells #[f,a,b,d,.slice D o p] 42)).alloc jo) w 42 #[f,a,b,d,.slice D o p]):=(af.new _ _ _).alloc _
 have s:Hid (af ((w.alloc (.cells #[f,a,b,d,.slice D o p] 42)).alloc jo) (w.heap.size+1) 48 #[oZ,oZ,oZ,oZ]):=(af.newAt _ _ _ aD)
 obtain⟨m,rh⟩:=av (H.more r) H.wH
 have V:base<=w.heap.size:=bq H.low (Nat.le_of_lt H.blk.lt)
 have LL:g<w.heap.size:=H.blk.lt
 clear H
 dsimp only
 by_cases G:8<=f
 ·have l:Hid (ia c h t sq ⟨f,a,b,d,j⟩=(h,bI 1)):=by unfold Hid ia;dsimp only;rw[ah aa,ah aa,ah aa,ah aa,ah aa,ah aa]
  have d1:(f==1)=false:=di.2 aa;have d2:(f==2)=false:=di.2 aa;have d3:(f==3)=false:=di.2 aa;have d4:(f==4)=false:=di.2 aa;have d5:(f==5)=false:=di.2 aa;have d6:(f==6)=false:=di.2 aa;have d7:(f==7)=false:=di.2 aa;obtain⟨F,E,U⟩:=aZ (u.more (ak (ak (aj w) (.cells #[f,a,b,d,.slice D o p] 42)) (qX 0 0 1 0))) ((ak (ak (aj w) (.cells #[f,a,b,d,.slice D o p] 42)) (qX 0 0 1 0)).mono V) (ue _ (.ext (ak (ak (aj w) (.cells #[f,a,b,d,.slice D o p] 42)) (qX 0 0 1 0))));go_enter func264,ntmps264;go_wp2;refine bodyPost_ret (v:=.agg #[oZ,oZ,.int .i64 1,oZ]) ?_ rfl ?_
  ·simp[results,results264,go_sem]
  ·rw[l.Y];exact⟨rfl,⟨_,_,F⟩,E,U⟩
 ·have X:f=1\/f=2\/f=3\/f=4\/f=5\/f=6\/f=7:=aa;clear L G;have Y:((w.alloc (.cells #[f,a,b,d,.slice D o p] 42)).alloc jo).heap.size=w.heap.size+1+1:=aD;obtain⟨w0,B⟩:=aG ((w.alloc (.cells #[f,a,b,d,.slice D o p] 42)).alloc jo);rcases X with rfl|rfl|rfl|rfl|rfl|rfl|rfl
  all_goals
   go_enter func264,ntmps264;go_wp2_with fail;rw[<-B]at r N s m Y ⊢;obtain⟨gD,-,LY⟩:=af.aM N;clear B
  ·have l:Hid (ia c h t sq ⟨1,a,b,d,j⟩=rQ c h a):=rfl;go_wp2_with fail;go_fit (QQ _ m y Z a);rintro e w3 hE;have HP:=ae (hE.pass u m r (q:=w.heap.size+1) (cj _) (c1:=[oZ,oZ,oZ,oZ]) s rfl);have he:e=_:=hE.1;rw[<-l.Y]at HP he;obtain⟨pp,EC⟩:=aG (ia c h t sq ⟨1,a,b,d,j⟩);exact mk3
  ·have l:Hid (ia c h t sq ⟨2,a,b,d,j⟩=qa h a):=rfl;go_wp2_with fail;go_fit (Q5 _ m y a);rintro e w3 hE;have HP:=ae (hE.pass u m r (q:=w.heap.size+1) (cj _) (c1:=[oZ,oZ,oZ,oZ]) s rfl);have he:e=_:=hE.1;rw[<-l.Y]at HP he;obtain⟨pp,EC⟩:=aG (ia c h t sq ⟨2,a,b,d,j⟩);exact mk3
  ·have l:Hid (ia c h t sq ⟨3,a,b,d,j⟩=ey h t sq ⟨3,a,b,d,j⟩):=rfl;go_wp2_with fail;go_fit (Hz _ m y ⟨3,a,b,d,j⟩ D o p Q (S.below r) R x ui W P);rintro e w3 hE;have HP:=ae (hE.pass u m r (q:=w.heap.size+1) (cj _) (c1:=[oZ,oZ,oZ,oZ]) s rfl);have he:e=_:=hE.1;rw[<-l.Y]at HP he;obtain⟨pp,EC⟩:=aG (ia c h t sq ⟨3,a,b,d,j⟩);exact mk3
  ·have l:Hid (ia c h t sq ⟨4,a,b,d,j⟩=n7 h a):=rfl;go_wp2_with fail;go_fit (Ms _ m y a x T);rintro e w3 hE;have HP:=ae (hE.pass u m r (q:=w.heap.size+1) (cj _) (c1:=[oZ,oZ,oZ,oZ]) s rfl);have he:e=_:=hE.1;rw[<-l.Y]at HP he;obtain⟨pp,EC⟩:=aG (ia c h t sq ⟨4,a,b,d,j⟩);exact mk3
  ·have l:Hid (ia c h t sq ⟨5,a,b,d,j⟩=(h,pE h ⟨5,a,b,d,j⟩)):=rfl;go_wp2_with fail;go_fit (Ez _ m ⟨5,a,b,d,j⟩ D o p);rintro e w3 hE;have HP:=ae (hE.pass u m r (q:=w.heap.size+1) (cj _) (c1:=[oZ,oZ,oZ,oZ]) s rfl);have he:e=_:=hE.1;rw[<-l.Y]at HP he;obtain⟨pp,EC⟩:=aG (ia c h t sq ⟨5,a,b,d,j⟩);exact mk3
  ·have l:Hid (ia c h t sq ⟨6,a,b,d,j⟩=(h,pE h ⟨6,a,b,d,j⟩)):=rfl;go_wp2_with fail;go_fit (Ez _ m ⟨6,a,b,d,j⟩ D o p);rintro e w3 hE;have HP:=ae (hE.pass u m r (q:=w.heap.size+1) (cj _) (c1:=[oZ,oZ,oZ,oZ]) s rfl);have he:e=_:=hE.1;rw[<-l.Y]at HP he;obtain⟨pp,EC⟩:=aG (ia c h t sq ⟨6,a,b,d,j⟩);exact mk3
  ·have l:Hid (ia c h t sq ⟨7,a,b,d,j⟩=jf h t a b):=rfl;go_wp2_with fail;go_fit (Hw _ m y a b x);rintro e w3 hE;have HP:=ae (hE.pass u m r (q:=w.heap.size+1) (cj _) (c1:=[oZ,oZ,oZ,oZ]) s rfl);have he:e=_:=hE.1;rw[<-l.Y]at HP he;obtain⟨pp,EC⟩:=aG (ia c h t sq ⟨7,a,b,d,j⟩);exact mk3
end
structure xi (w:World) (base:Nat) (h:Mo.Hl) (A1 A2 A3:Option Addr) (n1 n2 n3 m1 m2 m3:Nat):Prop where
 ch:Qm w base (.slice A1 n1 m1) h.chans
 wt:lB w base (.slice A2 n2 m2) h.waits
 dn:aH w base 48 4 ej (.slice A3 n3 m3) h.done
theorem xi.more(H:xi w base h A1 A2 A3 n1 n2 n3 m1 m2 m3)(a:Below w w w'):xi w' base h A1 A2 A3 n1 n2 n3 m1 m2 m3:=⟨H.ch.j6 cP a,H.wt.j6 aR a,H.dn.ai a⟩
theorem xi.bO(H:xi w base h A1 A2 A3 n1 n2 n3 m1 m2 m3)(hq:q<base)(F:af w q ty ys)(r:ty≠3)(C:ty≠110)(o:Nat)(vs:List Value):xi (aw w q o vs) base h A1 A2 A3 n1 n2 n3 m1 m2 m3:=by
 have c:∀b,iU w b->b≠q:=fun b a d=>by subst d;exact iU.not F r C a
 refine⟨?_,?_,cm (fun b a=>by have:=(aX H.dn a).1;omega) _ _ _ _ H.dn⟩
 ·exact(aI.move cP H.ch (fun b a=>aO (c b a) _ _) (fun b a=>aO (by have:=(aI.lt H.ch a).1;omega) _ _)).mono cP (fun b a=>fN _ _ _ a)
 ·exact(aI.move aR H.wt (fun b a=>aO (c b a) _ _) (fun b a=>aO (by have:=(aI.lt H.wt a).1;omega) _ _)).mono aR (fun b a=>fN _ _ _ a)
theorem xi.put(H:xi w base h g1 A2 A3 n1 n2 n3 m1 m2 m3){x:Ch}(o:h.chans[i]?=some x)(s:x.buf.length<=d)(t:bJ w .i64 B x.buf)(r:∀b,B=some b->x.buf≠[]->Ty w 3 b.block) :
 xi (aw w g1 (i*5) [x.gen,x.cap,x.used,x.closed,.slice B x.buf.length d]) base h g1 A2 A3 n1 n2 n3 m1 m2 m3:=by
 obtain⟨m,hg,k⟩:=H.ch.ty
 have nB:¬iU w g1:=iU.not hg ag ag
 refine⟨?_,?_,?_⟩
 ·have c:Qm (aw w g1 (i*5) [x.gen,x.cap,x.used,x.closed,.slice B x.buf.length d]) base (.slice g1 n1 m1) (h.chans.set i x):=(H.ch.LJ cP (dv o) _ rfl (by intro u f;simp at f;rcases f with rfl|rfl|rfl|rfl|rfl<;>rfl) nB (y:=x) ⟨B,d,rfl,s,t,fun g j a=>.inl (r g j a)⟩).mono cP (fun b hb=>fN _ _ _ hb);have e:h.chans.set i x=h.chans:=by
   obtain⟨l,he⟩:=List.getElem?_eq_some_iff.1 o;rw[<-he];exact List.set_getElem_self l
  rwa [e]at c
 ·exact acF
 ·exact cm (fun b hb he=>by subst he;exact fk H.dn hg ag hb.symm) _ _ _ _ H.dn
def CpV(w:World)(h:Hl)(s t y:Nat)(a:World)(b o r:Option Addr)(d1 d2 d3:Nat):Prop:=af a w 71 #[h.az,.slice b s d1,.slice o t d2,.slice r y d3]/\af a (w.heap.size+1) 71 #[oZ,oN,oN,oN]/\xi a (w.heap.size+2) h b o r s t y d1 d2 d3/\Below w w a
def CpC(w:World)(h:Hl)(a b o:Nat)(r:World):Prop:=∃B1 B2 B3 d1 d2 d3,CpV w h a b o r B1 B2 B3 d1 d2 d3
theorem CpV.more{r:World}(H:CpV w h n1 n2 n3 w1 B1 B2 B3 d1 d2 d3)(a:Below w1 w1 r):CpV w h n1 n2 n3 r B1 B2 B3 d1 d2 d3:=⟨H.1.ai a,H.2.1.ai a,H.2.2.1.more a,ai H.2.2.2 a⟩
theorem CpC.of{a:World}{F:Value}(s:af a w 71 #[h.az,v1,F,v3])(E:af a (w.heap.size+1) 71 #[oZ,oN,oN,oN])(o:xi a (w.heap.size+2) h B1 B2 B3 n1 n2 n3 d1 d2 d3)(C:Below w w a) :
 CpC w h n1 n2 n3 (((a.setCell ⟨w,1,none⟩ (.slice B1 n1 d1)).setCell ⟨w,2,none⟩ (.slice B2 n2 d2)).setCell ⟨w,3,none⟩ (.slice B3 n3 d3)) :=
 ⟨B1,B2,B3,d1,d2,d3,((s.bj 1 _).bj 2 _).bj 3 _,ba E aa [.slice B1 n1 d1,.slice B2 n2 d2,.slice B3 n3 d3] 1,o.bO aa s ag ag 1 [.slice B1 n1 d1,.slice B2 n2 d2,.slice B3 n3 d3],ax (aS _) [.slice B1 n1 d1,.slice B2 n2 d2,.slice B3 n3 d3] _ 1 C⟩
def HlG(h:Hl)(w:World)(e:Ending)(a:World):Prop:=∃A1 A2 A3 m1 m2 m3,e=.returned (.agg #[h.az,.slice A1 h.chans.length m1,.slice A2 h.waits.length m2,.slice A3 h.done.length m3])/\xi a w h A1 A2 A3 h.chans.length h.waits.length h.done.length m1 m2 m3/\Below w w a
section
variable(w:World)
theorem MD(h:Hl)(E F G:Option Addr)(a o s I J K:Nat)(oK:a=h.chans.length)(uq:o=h.waits.length)(vW:s=h.done.length)(l1:a<=1000)(l2:o<=1000)(l3:s<=1000)(h1:pU w E h.chans)(h2:iu w F h.waits)(h3:dI w ej G h.done)(C5:∀x∈h.chans,x.buf.length<=90000)(O:∀x∈h.waits,x.cases.length<=90000) :
 Calls prog 263 #[.agg #[h.az,.slice E a I,.slice F o J,.slice G s K]] w (HlG h w):=by
 obtain⟨C1,C2,C3,V,N2,N3⟩:=cT (fun k (C:Below w w k)=>Ek k E I h.chans oK aa (h1.j6 cP C)) (fun k (C:Below w w k)=>ji k F J h.waits uq aa (h2.j6 aR C) (fun x H=>bq (O x H) ag)) (fun k (C:Below w w k)=>su k G K h.done vW aa (h3.below C)) oK uq vW
 have U:=ae C5
 clear h1 h2 h3 C5 O oK uq vW
 have bM:Hid (Below w w ((w.alloc (uB h.az E a I F o J G s K)).alloc Av)):=ak (ak (aj w) _) _
 have Y:Below w w (((w.alloc (uB h.az E a I F o J G s K)).alloc Av).drew):=(ak (ak (aj w) _) _).drew
 have JI:af (((w.alloc (uB h.az E a I F o J G s K)).alloc Av).drew) w 71 #[h.az,.slice E a I,.slice F o J,.slice G s K]:=(af.new _ _ _).alloc _
 have tQ:af (((w.alloc (uB h.az E a I F o J G s K)).alloc Av).drew) (w.heap.size+1) 71 #[oZ,oN,oN,oN]:=(af.newAt _ _ _ aD)
 go_enter func263,ntmps263
 go_wp2_with fail
 go_upto_region 1 with fail
 go_cut[] (fun k=>CpC w h a o s k)
 case first =>
  go_region_law(first
   |(go_simp;go_at_call 271;go_fit (C1 _ Y);rintro e w1 ⟨z,d1,rfl,fM,n⟩;have nv:=ai Y n;have vR:=JI.ai n;have u9:=tQ.ai n;have UB:=fun i=>af.cell vR i;go_wp2_with fail)
   |(go_simp;go_at_call 272;go_fit (C2 _ nv);rintro e w2 ⟨v2,rfl,l,d2,rfl,gX,t⟩;have sV:=ai nv t;have M:=vR.ai t;have yw:=u9.ai t;have a7:=fun i=>af.cell M i;go_wp2_with fail)
   |(go_simp;go_at_call 267;go_fit (C3 _ sV);rintro e w3 ⟨m,d3,rfl,bz,nR,u⟩;have qp:=ai sV u;have A:=M.ai u;have uk:=yw.ai u;have a8:=fun i=>af.cell A i;have bg:=fun i=>af.free A i;have bo:=A.lt;go_wp2_with fail))
  all_goals
   go_wp2;go_meet;exact CpC.of A uk ⟨((fM.bD (base':=w.heap.size+2) aD).j6 cP t).j6 cP u,(gX.bD (base':=w.heap.size+2) (by have:=n.size;simp at this;omega)).j6 aR u,nR.bD (base':=w.heap.size+2) (by have:=n.size;have:=t.size;simp at *;omega)⟩ qp
 case rest =>
  obtain⟨z,l,m,d1,d2,d3,Z⟩:=hcut;have HV:=ae Z;obtain⟨P,-,Q⟩:=af.aM Z.1;clear Z Y JI tQ C1 C2 C3 bM;go_wp2_with fail;clear P Q;go_loopw[19] (fun i wr=>∃j:Nat,j<=a/\i=j/\Hid (CpV w h a o s wr z l m d1 d2 d3)) (fun i _=>a-(intOf i).toNat);case atStart=>exact⟨0,aV _,rfl,HV⟩
  case round =>
   obtain⟨j,hj,rfl,c⟩:=hrel;obtain⟨P,-,Q⟩:=af.aM c.1;by_cases a6:j<a
   ·obtain⟨x,H⟩:∃x,h.chans[j]?=some x:=⟨_,cY (by rw[<-V.Y];exact a6)⟩
    obtain⟨d,c',hv,bR,y⟩:=c.2.2.1.ch.form (by have:=bX H;intro e;rw[e]at this;cases this);injection hv with e1 e2 e3
    subst e1 e3;clear e2;obtain⟨r,hP,jU,hcell⟩:=c.2.2.1.ch.at_ H;obtain⟨D,dd,rfl,aq,N⟩:=hP;have W:=hcell 0 _ rfl;rw[Nat.add_zero]at W;have c1:=hcell 1 _ rfl;have c2:=hcell 2 _ rfl;have c3:=hcell 3 _ rfl;have c4:=hcell 4 _ rfl;obtain⟨HX,rH⟩:=av H (fun k (C:Below wr wr k)=>mq k x D x.buf.length dd rfl (bq (U x (bX H)) ag) (N.1.below C));have i1:(0:Int)<=(j:Int):=aa;have i2:(j:Int)<(a:Int):=aa;clear hcell H N aq jU;go_wp2_with fail;have f0:=c.2.2.1.ch.cR (j*5);have f1:=c.2.2.1.ch.cR (j*5+1);have f2:=c.2.2.1.ch.cR (j*5+2);have f3:=c.2.2.1.ch.cR (j*5+3);have f4:=c.2.2.1.ch.cR (j*5+4);have T:Below wr wr wr.drew:=(aj wr).drew;go_region_law(first
     |(go_simp;go_at_call 273;go_fit (rH _ T);rintro e w5 ⟨v5,rfl,S,X,rfl,R,ei⟩;have f:=ai T ei;have Hc:=fun i=>af.cell (af.ai c.1 f) i;have k0:=(f.cell (p:=⟨d,j*5,none⟩) y).trans W;have k1:=(f.cell (p:=⟨d,j*5+1,none⟩) y).trans c1;have k2:=(f.cell (p:=⟨d,j*5+2,none⟩) y).trans c2;have k3:=(f.cell (p:=⟨d,j*5+3,none⟩) y).trans c3;have k4:=(f.cell (p:=⟨d,j*5+4,none⟩) y).trans c4;have j0:=(f.frozen (p:=⟨d,j*5,none⟩) y).trans f0;have j1:=(f.frozen (p:=⟨d,j*5+1,none⟩) y).trans f1;have j2:=(f.frozen (p:=⟨d,j*5+2,none⟩) y).trans f2;have j3:=(f.frozen (p:=⟨d,j*5+3,none⟩) y).trans f3;have j4:=(f.frozen (p:=⟨d,j*5+4,none⟩) y).trans f4;have ux:=ltW f y;go_wp2_with fail))
    all_goals
     have L:=c.more f;have UP:w≠d:=aa;have UQ:w.heap.size+1≠d:=aa;have PE:CpV w h a o s (aw w5 d (j*5) [x.gen,x.cap,x.used,x.closed,.slice S x.buf.length X]) d l m d1 d2 d3:=⟨ba L.1 UP _ _,ba L.2.1 UQ _ _,L.2.2.1.put HX R.cap.2 R.pP.2 (fun b C _=>by subst C;exact xA R),ax aa _ _ _ L.2.2.2⟩
     have NN:=ae PE;clear L PE W c1 c2 c3 c4 f0 f1 f2 f3 f4 k0 k1 k2 k3 k4 j0 j1 j2 j3 j4 Hc P Q ei f T R;change Exit.inBlock _ _ _ _ (aw w5 d (j*5) [x.gen,x.cap,x.used,x.closed,.slice S x.buf.length X]);generalize aw w5 d (j*5) [x.gen,x.cap,x.used,x.closed,.slice S x.buf.length X]=w6 at *;go_wp2;go_roundw;case rel=>exact⟨j+1,aa,by go_num,NN⟩
     case measure=>simp[intOf];omega
   ·skip;obtain⟨dR,dK,-⟩:=af.aM c.2.1;have dN:=af.lt c.2.1;go_wp2_with fail;have fh:=aQ (vs:=[h.az,.slice z a d1,.slice l o d2,.slice m s d3]) c.2.1 rfl;have nc:=c.2.2.1.bO (q:=w.heap.size+1) aa c.2.1 ag ag 0 [h.az,.slice z a d1,.slice l o d2,.slice m s d3];have gv:=ax (B:=w.heap.size) (g:=w.heap.size+1) aa [h.az,.slice z a d1,.slice l o d2,.slice m s d3] _ 0 c.2.2.2;change bodyPost _ _ _ _ _ (aw wr (w.heap.size+1) 0 [h.az,.slice z a d1,.slice l o d2,.slice m s d3]);clear dR dK dN P Q;generalize aw wr (w.heap.size+1) 0 [h.az,.slice z a d1,.slice l o d2,.slice m s d3]=wz at *;have fH:=fun i=>af.cell fh i;have n9:HlG h w (.returned (.agg #[h.az,.slice z a d1,.slice l o d2,.slice m s d3])) wz:=⟨z,l,m,d1,d2,d3,by rw[<-V.Y, <-N2.Y, <-N3.Y],by rw[<-V.Y, <-N2.Y, <-N3.Y];exact⟨nc.ch.bD aa,nc.wt.bD aa,nc.dn.bD aa⟩,gv⟩
    refine bodyPost_ret (v:=.agg #[h.az,.slice z a d1,.slice l o d2,.slice m s d3]) ?_ rfl n9;simp[results,results263,go_sem,fH]
end
theorem xi.bD(H:xi w base h A1 A2 A3 n1 n2 n3 m1 m2 m3)(a:base'<=base):xi w base' h A1 A2 A3 n1 n2 n3 m1 m2 m3:=⟨H.ch.bD a,H.wt.bD a,H.dn.bD a⟩
theorem ed.ofO{t:Int}(H:xi w base h B1 B2 B3 h.chans.length h.waits.length h.done.length d1 d2 d3)(o:base<=w.heap.size):ed (w.alloc (.cells (nY c A n k t sq h.az (.slice B1 h.chans.length d1) (.slice B2 h.waits.length d2) (.slice B3 h.done.length d3)) 287)) base w c A n k t sq h B1 B2 B3 d1 d2 d3 :=
 have a:=H.more (ak (aj w) (.cells (nY c A n k t sq h.az (.slice B1 h.chans.length d1) (.slice B2 h.waits.length d2) (.slice B3 h.done.length d3)) 287))
 ⟨af.new _ _ _,a.ch,a.wt,a.dn,o⟩
section
variable(w:World) {c:Mo.bA} {A:Option Addr} {n k:Nat} {t sq:Int} {h:Mo.Hl}
theorem Ia(o p r:Option Addr)(z C E G H I:Nat)(oK:z=h.chans.length)(uq:C=h.waits.length)(vW:E=h.done.length)(h1:pU w o h.chans)(h2:iu w p h.waits)(h3:dI w ej r h.done)(R:Vb h)(pS:c.bt<=4095)(q:Rq)(D:Option Addr)(F J:Nat)(FC:F=q.cases.length)(hr:dI w bC D q.cases)(hq:Mo.bk q=true)(T:h.done.length=h.waits.length)(ui:0<=t)(vK:t<h.waits.length)(Ds:0<=h.az/\h.az<=4294967295)(a8:(ia c h t sq q).1.done.length=h.done.length) :
 Calls prog 251 #[.agg #[c.kind,c.threads,c.chans,c.cap,c.nodes,c.aL,c.aF,c.tags,c.bG,c.bt,.slice A n k],.agg #[h.az,.slice o z G,.slice p C H,.slice r E I],t,sq,.agg #[q.kind,q.arg,q.value,q.dflt,.slice D F J]] w (HlG (fB c h t sq q) w):=by
 obtain⟨pH,iH,X,bR,fP⟩:=dh (fun m (s:Below w w m)=>MD m h o p r z C E G H I oK uq vW (by rw[oK];exact bq R.chans ag) (by rw[uq];exact bq R.waits ag) (by rw[vW];exact bq R.done ag) (h1.j6 cP s) (h2.j6 aR s) (h3.below s) R.buf R.cases) (fun m {base g:Nat} {l N O:Option Addr} {d1 d2 d3:Nat} (s:Below w w m) (HV:ed m base g c A n k t sq h l N O d1 d2 d3)=>MA m HV R pS q D F J FC (hr.below s) hq T ui vK Ds) a8 T vK
 clear h1 h2 h3 R FC hr hq T oK uq vW a8 vK
 have Y:Hid (Below w w ((((w.alloc (dV c A n k)).alloc (uB h.az o z G p C H r E I)).alloc (jx q D F J)).alloc Av)):=ak (ak (ak (ak (aj w) _) _) _) _
 have pL:Hid (af ((((w.alloc (dV c A n k)).alloc (uB h.az o z G p C H r E I)).alloc (jx q D F J)).alloc Av) w.heap.size 24 #[c.kind,c.threads,c.chans,c.cap,c.nodes,c.aL,c.aF,c.tags,c.bG,c.bt,.slice A n k]):=(((af.new _ _ _).alloc _).alloc _).alloc _
 have P:Hid (af ((((w.alloc (dV c A n k)).alloc (uB h.az o z G p C H r E I)).alloc (jx q D F J)).alloc Av) (w.heap.size+1) 71 #[h.az,.slice o z G,.slice p C H,.slice r E I]):=((af.newAt _ _ _ aD).alloc _).alloc _
 have xF:Hid (af ((((w.alloc (dV c A n k)).alloc (uB h.az o z G p C H r E I)).alloc (jx q D F J)).alloc Av) (w.heap.size+2) 42 #[q.kind,q.arg,q.value,q.dflt,.slice D F J]):=(af.newAt _ _ _ aD).alloc _
 have qM:Hid (af ((((w.alloc (dV c A n k)).alloc (uB h.az o z G p C H r E I)).alloc (jx q D F J)).alloc Av) (w.heap.size+3) 71 #[oZ,oN,oN,oN]):=(af.newAt _ _ _ aD)
 have na:((((w.alloc (dV c A n k)).alloc (uB h.az o z G p C H r E I)).alloc (jx q D F J)).alloc Av).heap.size=w.heap.size+4:=aD
 obtain⟨w0,bo⟩:=aG ((((w.alloc (dV c A n k)).alloc (uB h.az o z G p C H r E I)).alloc (jx q D F J)).alloc Av)
 go_enter func251,ntmps251
 go_wp2
 simp only[Nat.add_assoc,Nat.reduceAdd]
 rw[<-bo]at Y pL P xF qM na ⊢
 clear bo
 have Ib:=ae (fun m (s:Ext w0 m)=>pH m (ai Y s.Y))
 have b5:=fun m (s:Ext w0 m) i=>af.cell (pL.ai s.Y) i
 have b6:=fun m (s:Ext w0 m) i=>af.cell (P.ai s.Y) i
 go_region_held3(Ext w0) (with_reducible(first|assumption|exact Ext.start _|exact Ext.alloc (by assumption) _)) (((with_reducible go_fit (Ib.Y _ (by assumption)));rintro e W ⟨l,N,O,d1,d2,d3,rfl,hO,a7⟩;have kX:=Ext.to (by assumption) a7;have HO:=ae hO;clear hO))
 have xx:=ae kX
 have cd:=kX.Y.size
 have CD:Hid (ed (W.alloc (.cells (nY c A n k t sq h.az (.slice l h.chans.length d1) (.slice N h.waits.length d2) (.slice O h.done.length d3)) 287)) (w.heap.size+4) W.heap.size c A n k t sq h l N O d1 d2 d3):=ed.ofO (HO.bD (by show w.heap.size+4<=w0.heap.size;omega)) aa
 have V:=ae (Ext.alloc xx (.cells (nY c A n k t sq h.az (.slice l h.chans.length d1) (.slice N h.waits.length d2) (.slice O h.done.length d3)) 287))
 change Exit.then _ _ _ _ (W.alloc (.cells (nY c A n k t sq h.az (.slice l h.chans.length d1) (.slice N h.waits.length d2) (.slice O h.done.length d3)) 287))
 have b7:w.heap.size+4<=W.heap.size:=aa
 clear b5 b6 kX a7 HO xx Ib cd
 generalize W.heap.size=g at CD b7 ⊢
 generalize W.alloc (.cells (nY c A n k t sq h.az (.slice l h.chans.length d1) (.slice N h.waits.length d2) (.slice O h.done.length d3)) 287)=w2 at *
 have dR:=fun i=>af.cell (xF.ai V.Y) i
 have dN:=(xF.ai V.Y).lt
 go_wp2_with fail
 go_fit (iH _ (ai Y V.Y) CD)
 rintro e U Z
 have he:e=_:=Z.1
 obtain⟨u,K,(f:Hid _)⟩:=Z.2.1
 obtain⟨cM,M,jv⟩:=aZ Z.2.2.1 (af.below (qM.ai V.Y) Z.2.2.1 aa) (ai Y V.Y)
 obtain⟨pp,EC⟩:=aG (ia c h t sq q)
 rw[<-EC]at he f X
 have bY:=ae EC
 clear EC Z dR dN iH pH pL P xF qM V CD Y
 subst he
 obtain⟨a,rfl⟩:∃a:Nat,t=a:=⟨t.toNat,aa⟩
 have x:a<pp.1.done.length:=by have:=X.Y;have:=bR.Y;have:=fP.Y;omega
 obtain⟨dl,T⟩:=aG pp.1.done.length
 have bz:=ae T
 have i1:(0:Int)<=(a:Int):=aa
 have i2:(a:Int)<(dl:Int):=aa
 have i3:a<dl:=aa
 obtain⟨d,c',hv,bg,pS⟩:=f.done.form (by intro e;rw[e]at x;simp at x)
 injection hv with e1 e2 e3
 subst e1 e3
 clear e2
 have b8:g≠d:=fun e=>by subst e;exact fk f.done f.blk ag rfl
 have Cq:d≠g:=fun e=>b8 e.symm
 obtain⟨y,hy⟩:∃y,pp.1.done[a]?=some y:=⟨_,cY x⟩
 have k0:=aH.cells cX f.done hy (j:=0) rfl
 have k1:=aH.cells cX f.done hy (j:=1) rfl
 have k2:=aH.cells cX f.done hy (j:=2) rfl
 have k3:=aH.cells cX f.done hy (j:=3) rfl
 rw[Nat.add_zero]at k0
 have f0:=aH.frozen f.done (a*4)
 have f1:=aH.frozen f.done (a*4+1)
 have f2:=aH.frozen f.done (a*4+2)
 have f3:=aH.frozen f.done (a*4+3)
 clear hy x
 obtain⟨Q,S,-⟩:=af.aM (ed.blk f)
 have gO:=af.lt (ed.blk f)
 unfold nY at Q
 rw[<-T]at Q
 clear T
 have cn:g<U.heap.size:=gO
 go_wp2
 go_region
 clear k0 k1 k2 k3 f0 f1 f2 f3 Q S gO
 have yS:ud U U (w.heap.size+4) d pp.1.done.length d3 pp.1.done:=⟨f.done,fun _ _ _=>rfl,Below.refl _ _,aS _,bg⟩
 have qN:=yS.put (i:=a) (by rw[<-bz.Y];exact i3) ⟨sq,pp.2.cs,pp.2.code,pp.2.value⟩
 have a6:=f.told (L:=pp.1.done.set a ⟨sq,pp.2.cs,pp.2.code,pp.2.value⟩) cq qN
 have aq:=ba M (b:=w.heap.size+3) (g:=d) aa (ej ⟨sq,pp.2.cs,pp.2.code,pp.2.value⟩) (a*4)
 have rZ:Below (w.heap.size+4) w2 (aw U d (a*4) (ej ⟨sq,pp.2.cs,pp.2.code,pp.2.value⟩)):=ax bg _ _ _ cM
 change Exit.then _ _ _ _ ((aw U d (a*4) (ej ⟨sq,pp.2.cs,pp.2.code,pp.2.value⟩)).alloc (qX sq pp.2.cs pp.2.code pp.2.value)).drew
 have yX:=(ak (aj (aw U d (a*4) (ej ⟨sq,pp.2.cs,pp.2.code,pp.2.value⟩))) (qX sq pp.2.cs pp.2.code pp.2.value)).drew
 obtain⟨yK,zG,je⟩:=aZ (a6.more yX) (aq.ai yX) ((jv.trans ((rZ.mono (Nat.le_add_right _ 4)).trans (yX.mono (by rw[bH];omega)))))
 clear yS qN a6 aq rZ yX M cM f
 generalize((aw U d (a*4) (ej ⟨sq,pp.2.cs,pp.2.code,pp.2.value⟩)).alloc (qX sq pp.2.cs pp.2.code pp.2.value)).drew=w5 at *
 obtain⟨dR,dK,-⟩:=af.aM zG
 have dN:=af.lt zG
 obtain⟨Q,S,-⟩:=af.aM (ed.blk yK)
 have gO:=af.lt (ed.blk yK)
 unfold nY at Q
 have VD:(pp.1.done.set a ⟨sq,pp.2.cs,pp.2.code,pp.2.value⟩).length=pp.1.done.length:=cq
 have HG:Hid (fB c h a sq q={pp.1 with done:=pp.1.done.set a ⟨sq,pp.2.cs,pp.2.code,pp.2.value⟩}):=by unfold Hid fB fB.BH;rw[<-bY.Y];dsimp only;rw[ah aa,gu]
 rw[VD]at Q
 clear S
 go_wp2_with fail
 have lH:xi w5 (w.heap.size+4) {pp.1 with done:=pp.1.done.set a ⟨sq,pp.2.cs,pp.2.code,pp.2.value⟩} l u d pp.1.chans.length pp.1.waits.length pp.1.done.length d1 K d3:=⟨yK.chans,yK.waits,by have:=yK.done;rw[VD]at this;exact this⟩
 have fh:=aQ (vs:=[pp.1.az,.slice l pp.1.chans.length d1,.slice u pp.1.waits.length K,.slice d pp.1.done.length d3]) zG rfl
 have nc:=lH.bO (q:=w.heap.size+3) aa zG ag ag 0 [pp.1.az,.slice l pp.1.chans.length d1,.slice u pp.1.waits.length K,.slice d pp.1.done.length d3]
 have gv:=ax (B:=w.heap.size) (g:=w.heap.size+3) aa [pp.1.az,.slice l pp.1.chans.length d1,.slice u pp.1.waits.length K,.slice d pp.1.done.length d3] _ 0 je
 change bodyPost _ _ _ _ _ (aw w5 (w.heap.size+3) 0 [pp.1.az,.slice l pp.1.chans.length d1,.slice u pp.1.waits.length K,.slice d pp.1.done.length d3])
 clear dR dK dN Q gO
 generalize aw w5 (w.heap.size+3) 0 [pp.1.az,.slice l pp.1.chans.length d1,.slice u pp.1.waits.length K,.slice d pp.1.done.length d3]=wz at *
 have fH:=fun i=>af.cell fh i
 have n9:HlG (fB c h a sq q) w (.returned (.agg #[pp.1.az,.slice l pp.1.chans.length d1,.slice u pp.1.waits.length K,.slice d pp.1.done.length d3])) wz:=by rw[HG.Y];refine⟨l,u,some ⟨d,0,none⟩,d1,K,d3,by dsimp only;rw[VD],?_,gv⟩;dsimp only;rw[VD];exact nc.bD aa
 refine bodyPost_ret (v:=.agg #[pp.1.az,.slice l pp.1.chans.length d1,.slice u pp.1.waits.length K,.slice d pp.1.done.length d3]) ?_ rfl n9
 simp[results,results251,go_sem,fH]
end
theorem vz(b:∀c,(f c).length=m)(o:0<m)(x:α)(n:Nat):(madeCells (f x).toArray (n*m)).toList=(List.replicate n x).flatMap f:=by
 have l:((List.replicate n x).flatMap f).length=n*m:=by rw[tu b,gp]
 have k:(madeCells (f x).toArray (n*m)).toList.length=n*m:=by rw[Array.length_toList,size_madeCells]
 apply List.ext_getElem?;intro i;by_cases h:i<n*m
 ·have e:i=(i/m)*m+i%m:=(Nat.div_add_mod' i m).symm;have j:i/m<n:=Nat.div_lt_of_lt_mul (by rw[Nat.mul_comm];exact h);have a:=Nat.mod_lt i o;have d:=xK b (List.replicate n x) (i/m) x (i%m) (by rw[List.getElem?_replicate,au j]) a;rw[<-e]at d;rw[d];unfold madeCells;rw[Array.toList_map,List.getElem?_map,Array.toList_range,List.getElem?_range h,Option.map_some,jG,b];have g:i%m<(f x).length:=by rw[b];exact a
  rw[cY g,getElem!_pos (f x).toArray (i%m) (by simpa using g)];simp
 ·rw[List.getElem?_eq_none aa,List.getElem?_eq_none aa]
theorem rp(o:∀c,(f c).length=m)(p:0<m)(x:α)(n:Nat)(r:n<=100000)(h:af w g e (madeCells (f x).toArray (n*m)))(a:base<=g):aH w base e m f (.slice g n n) (List.replicate n x):=by unfold aH;rw[gp, <-vz o p];exact⟨by rw[Array.length_toList,size_madeCells],.inr ⟨g,n,madeCells (f x).toArray (n*m),rfl,a,h,aS _,by unfold maxLen;omega,size_madeCells _ _,List.take_of_length_le (by rw[Array.length_toList,size_madeCells];exact aS _)⟩⟩
theorem xi.aeD(H:xi w base h g1 A2 A3 n1 n2 n3 m1 m2 m3)(r:i<h.chans.length)(y:Ch)(p:y.buf.length<=d)(s:bJ w .i64 B y.buf)(o:∀b,B=some b->y.buf≠[]->Ty w 3 b.block) :
 xi (aw w g1 (i*5) [y.gen,y.cap,y.used,y.closed,.slice B y.buf.length d]) base {h with chans:=h.chans.set i y} g1 A2 A3 n1 n2 n3 m1 m2 m3:=by
 obtain⟨j,hg,g⟩:=H.ch.ty
 have nB:¬iU w g1:=iU.not hg ag ag
 refine⟨?_,?_,?_⟩
 ·exact(H.ch.LJ cP r _ rfl (by intro u c;simp at c;rcases c with rfl|rfl|rfl|rfl|rfl<;>rfl) nB (y:=y) ⟨B,d,rfl,p,s,fun e f a=>.inl (o e f a)⟩).mono cP (fun b hb=>fN _ _ _ hb)
 ·exact acF
 ·exact cm (fun b hb he=>by subst he;exact fk H.dn hg ag hb.symm) _ _ _ _ H.dn
def chR:Row 5:=⟨[oZ,oZ,false,false,oN],rfl,by intro u a;simp at a;rcases a with rfl|rfl|rfl|rfl|rfl<;>rfl⟩
def wtR:Row 4:=⟨[false,oZ,oZ,oN],rfl,by intro u a;simp at a;rcases a with rfl|rfl|rfl|rfl<;>rfl⟩
def ME(c:bA)(n j:Nat):List Ch:=(List.range n).map fun i=>if i<j then(match c.start[i]? with|some k=>⟨1,k,true,false,[]⟩|none=>KC)else KC
theorem xG(c:bA)(n j:Nat):(ME c n j).length=n:=by unfold ME;simp
theorem acK(c:bA)(n:Nat):ME c n 0=List.replicate n KC:=by
 apply List.ext_getElem?;intro i;unfold ME;rw[List.getElem?_map,List.getElem?_replicate];by_cases h:i<n
 ·rw[List.getElem?_range h,au h];rfl
 ·rw[List.getElem?_eq_none (by simp;omega),ah h];rfl
theorem Ri{k:Int}(p:c.start[j]?=some k)(o:j<n):ME c n (j+1)=(ME c n j).set j ⟨1,k,true,false,[]⟩:=by
 apply List.ext_getElem?;intro i;unfold ME;rw[List.getElem?_map,List.getElem?_set,List.getElem?_map,cW,List.length_range];by_cases e:j=i
 ·subst e;rw[au rfl,au o,List.getElem?_range o,Option.map_some,au (Nat.lt_succ_self _),p]
 ·rw[ah e];by_cases h:i<n
  ·rw[List.getElem?_range h,Option.map_some,Option.map_some];by_cases a:i<j
   ·rw[au aa,au a]
   ·rw[ah aa,ah a]
  ·rw[List.getElem?_eq_none (by simp;omega)];rfl
theorem VE:ME c n c.start.length=(List.range n).map fun i=>match c.start[i]? with|some k=>⟨1,k,true,false,[]⟩|none=>KC:=by
 unfold ME;refine List.map_congr_left fun i _=>?_;by_cases h:i<c.start.length
 ·rw[au h]
 ·rw[ah h,List.getElem?_eq_none aa]
theorem af.dr{t:TypeId}(h:af w g t cs):af w.drew g t cs:=h
theorem Ext.Rj(w:World)(o a r:Obj):Ext w (((w.alloc o).alloc a).alloc r).drew:=(ak (ak (ak (aj w) o) a) r).drew
theorem Ext.Rk(w:World)(o a r s:Obj):Ext w ((((w.alloc o).alloc a).alloc r).alloc s).drew:=(ak (ak (ak (ak (aj w) o) a) r) s).drew
theorem run_mk(w:World)(t e:TypeId){z:Value}{sz by_:Nat}(F:prog.underlying t=some (.slice e))(C:(prog.info? e).map (fun i=>(i.zero,i.size,i.bytes))=some (some z,sz,by_))(L:Int)(r:0<=L)(s:L<=100000)(G:by_<=1000) :
 (Instr.makeSlice t L L).run prog w=.ok (.slice w L.toNat L.toNat) (w.alloc (.cells (madeCells z.cells (L.toNat*sz)) e)):=by
 obtain⟨i,d,a,b,c⟩:=info_parts C
 subst b
 exact run_make w t e i z F d a .i64 .i64 L L r (cI _) (by
  have:(i.bytes:Int)*L<=1000*100000:=Int.mul_le_mul aa s r ag;omega) aa
def StC(w r:World)(c:bA)(o:Value)(a:World):Prop:=∃g1 b d p,o=.pointer (some ⟨p,0,none⟩)/\af a p 71 #[oZ,.slice (some ⟨g1,0,none⟩) c.chans.toNat c.chans.toNat,.slice (some ⟨b,0,none⟩) c.threads.toNat c.threads.toNat,.slice (some ⟨d,0,none⟩) c.threads.toNat c.threads.toNat] /\
 w.heap.size+1<g1/\w.heap.size+1<b/\w.heap.size+1<d/\w.heap.size+1<p/\(p<g1\/g1<p) /\
 af a g1 83 (madeCells (eA chR).toArray (c.chans.toNat*5))/\af a b 79 (madeCells (eA wtR).toArray (c.threads.toNat*4))/\af a d 48 (madeCells (ej dD).toArray (c.threads.toNat*4)) /\
 Ext r a
section
variable(w:World)
theorem Ic(I:aU c=true)(R:c.kind=3)(hn:n=c.start.length)(G:bJ w .i64 A c.start) :
 Calls prog 145 #[.agg #[c.kind,c.threads,c.chans,c.cap,c.nodes,c.aL,c.aF,c.tags,c.bG,c.bt,.slice A n k]] w (HlG (ik c) w):=by
 have F:=Mo.aK I
 have hs:(c.start.length:Int)<=c.chans:=by unfold aU rA at I;simp only[cA]at I;have O:=I.2;rw[ah (by rw[R];decide),au R]at O;simp only[cA,bP]at O;exact O.1.2
 have b1:0<=c.chans:=F.2.2.2.2.2.2.2.1
 have b2:c.chans<=8:=F.2.2.2.2.2.2.2.2
 have b3:1<=c.threads:=F.1.1
 have b4:c.threads<=64:=F.1.2
 have a1:¬8<c.chans:=aa
 have a2:¬c.chans<0:=aa
 have a3:¬64<c.threads:=aa
 have a4:¬c.threads<0:=aa
 obtain⟨N,HS,HR⟩:=aZ hn hs G
 clear F hs hn G I R
 have bM:Hid (Below w w ((w.alloc (dV c A n k)).alloc Av)):=ak (ak (aj w) _) _
 have M:Hid (af ((w.alloc (dV c A n k)).alloc Av) w 24 #[c.kind,c.threads,c.chans,c.cap,c.nodes,c.aL,c.aF,c.tags,c.bG,c.bt,.slice A n k]):=(af.new _ _ _).alloc _
 have Y:Hid (af ((w.alloc (dV c A n k)).alloc Av) (w.heap.size+1) 71 #[oZ,oN,oN,oN]):=(af.newAt _ _ _ aD)
 have na:((w.alloc (dV c A n k)).alloc Av).heap.size=w.heap.size+1+1:=aD
 obtain⟨w0,u⟩:=aG ((w.alloc (dV c A n k)).alloc Av)
 go_enter func145,ntmps145
 go_wp2_with fail
 rw[<-u]at bM M Y na ⊢
 have aq:=ae u
 clear u
 obtain⟨s,-,V⟩:=af.aM M
 go_quiet(fail)
 generalize hw:World.drewN w0 _=w1
 have xx:Hid (Ext w0 w1):=by rw[<-hw];exact bV (aj w0) _
 clear hw s V
 go_wp2
 go_cut[5] (fun s5 C=>StC w w1 c s5 C)
 case first =>
  have bg:=xx.Y.size;have m1:=fun C=>run_mk C 67 83 (z:=.agg #[oZ,oZ,false,false,oN]) (sz:=5) (by_:=48) rfl sf c.chans b1 aa ag;have m2:=fun C=>run_mk C 68 79 (z:=.agg #[false,oZ,oZ,oN]) (sz:=4) (by_:=48) rfl sg c.threads aa aa ag;have m3:=fun C=>run_mk C 69 48 (z:=.agg #[oZ,oZ,oZ,oZ]) (sz:=4) (by_:=32) rfl uF c.threads aa aa ag;have e1:(Value.agg #[oZ,oZ,false,false,oN]).cells=(eA chR).toArray:=rfl;have e2:(Value.agg #[false,oZ,oZ,oN]).cells=(eA wtR).toArray:=rfl;have e3:(Value.agg #[oZ,oZ,oZ,oZ]).cells=(ej dD).toArray:=rfl;rw[e1]at m1;rw[e2]at m2;rw[e3]at m3;clear e1 e2 e3;generalize Z:madeCells (eA chR).toArray (c.chans.toNat*5)=M1 at m1;generalize X:madeCells (eA wtR).toArray (c.threads.toNat*4)=M2 at m2;generalize W:madeCells (ej dD).toArray (c.threads.toNat*4)=M3 at m3;obtain⟨Z,X,W⟩:=aZ Z X W;go_region_held3(Ext w1) (with_reducible(repeat(first|assumption|exact Ext.start _|exact Ext.gR _ _|exact Ext.CE _ _ _|exact Ext.Rj _ _ _ _|exact Ext.Rk _ _ _ _ _|refine Ext.alloc ?_ _|refine Ext.set ?_ (by simp;try omega)))) (fail);all_goals
   go_wp2;go_meet;apply Exists.intro;apply Exists.intro;apply Exists.intro;apply Exists.intro;refine⟨rfl,?_,?_⟩
   ·repeat(with_reducible first|exact af.newAt _ _ _ aD|refine af.dr ?_|refine af.alloc ?_ _)
   refine⟨aa,aa,aa,aa,aa,?_,?_,?_,bc⟩
   ·rw[Z.Y];repeat(with_reducible first|exact af.newAt _ _ _ aD|refine af.dr ?_|refine af.alloc ?_ _)
   ·rw[X.Y];repeat(with_reducible first|exact af.newAt _ _ _ aD|refine af.dr ?_|refine af.alloc ?_ _)
   ·rw[W.Y];repeat(with_reducible first|exact af.newAt _ _ _ aD|refine af.dr ?_|refine af.alloc ?_ _)
 case rest =>
  obtain⟨a,f,l,p,rfl,L,pS,a6,a7,F,a8,P5,BP,Ta,hX⟩:=hcut;have K:=ae (xx.to hX.Y);have E:=ae (ai bM K.Y);have hO:xi wc (w.heap.size+2) ⟨0,ME c c.chans.toNat 0,List.replicate c.threads.toNat iz,List.replicate c.threads.toNat dD⟩ a f l c.chans.toNat c.threads.toNat c.threads.toNat c.chans.toNat c.threads.toNat c.threads.toNat:=by
   refine⟨?_,?_,rp cX ag dD _ aa Ta aa⟩
   ·rw[acK];refine⟨List.replicate c.chans.toNat chR,aD,rp b9 ag chR _ aa P5 aa,fun i r x G U=>?_⟩;rw[List.eq_of_mem_replicate (dB G),List.eq_of_mem_replicate (dB U)];exact⟨none,0,rfl,aS _,bJ.nil _ _ _,fun ad h=>by cases h⟩
   ·refine⟨List.replicate c.threads.toNat wtR,aD,rp b9 ag wtR _ aa BP aa,fun i r x G U=>?_⟩;rw[List.eq_of_mem_replicate (dB G),List.eq_of_mem_replicate (dB U)];exact⟨none,0,rfl,aS _,dI.nil _ _ _,fun ad h=>by cases h⟩
  obtain⟨e,H,o,m⟩:=bN hO L (Y.ai K.Y) (M.ai K.Y);clear hO L P5 BP Ta hX xx Y M;obtain⟨s,-,V⟩:=af.aM m;go_wp2_with fail;clear s V;have H0:=ae (show(c.start.length:Int)<=c.chans from HS.Y);go_loopw[26] (fun i wr=>∃j:Nat,j<=n/\i=j/\Hid (xi wr (w.heap.size+2) ⟨0,ME c c.chans.toNat j,List.replicate c.threads.toNat iz,List.replicate c.threads.toNat dD⟩ (some ⟨a,0,none⟩) (some ⟨f,0,none⟩) (some ⟨l,0,none⟩) c.chans.toNat c.threads.toNat c.threads.toNat c.chans.toNat c.threads.toNat c.threads.toNat)/\Hid (af wr p 71 #[oZ,.slice (some ⟨a,0,none⟩) c.chans.toNat c.chans.toNat,.slice (some ⟨f,0,none⟩) c.threads.toNat c.threads.toNat,.slice (some ⟨l,0,none⟩) c.threads.toNat c.threads.toNat])/\Hid (af wr (w.heap.size+1) 71 #[oZ,oN,oN,oN])/\Hid (Below w w wr)) (fun i _=>n-(intOf i).toNat);case atStart=>exact⟨0,aV _,rfl,e,H,o,E⟩
  case round =>
   clear e H o m E K;obtain⟨j,hj,rfl,e,H,J,E⟩:=hrel;obtain⟨aB,-,aW⟩:=af.aM H;by_cases S:j<n
   ·obtain⟨ad,z,hA,hz,cz⟩:=bJ.at_ (HR.below E) (i:=j) (by rw[<-N.Y];exact S);subst hA;have t:j<c.chans.toNat:=by have:=H0.Y;have:=N.Y;omega
    have i2:(j:Int)<c.chans:=aa;obtain⟨y,hy⟩:∃y,(ME c c.chans.toNat j)[j]?=some y:=⟨_,cY (by rw[xG];exact t)⟩
    obtain⟨r,L,jU,hcell⟩:=e.ch.at_ hy;obtain⟨D,dd,rfl,Q,P⟩:=L;have c0:=hcell 0 _ rfl;rw[Nat.add_zero]at c0;have c1:=hcell 1 _ rfl;have c2:=hcell 2 _ rfl;have c3:=hcell 3 _ rfl;have c4:=hcell 4 _ rfl;have f0:=e.ch.cR (j*5);have f1:=e.ch.cR (j*5+1);have f2:=e.ch.cR (j*5+2);have f3:=e.ch.cR (j*5+3);have f4:=e.ch.cR (j*5+4);have HZ:=ae hz;clear hcell jU Q P hy hz;go_wp2_with fail;have yx:=e.aeD (i:=j) (by rw[xG];exact t) ⟨1,z,true,false,[]⟩ (B:=none) (d:=0) (aS _) (bJ.nil _ _ _) (fun b hb=>by cases hb);dsimp only at yx;rw[<-Ri HZ.Y t]at yx;obtain⟨ft,CG,ko,jv⟩:=bN yx (ba H (b:=p) (g:=a) aa [.int .i64 1,z,true,false,oN] (j*5)) (ba J (b:=w.heap.size+1) (g:=a) aa [.int .i64 1,z,true,false,oN] (j*5)) (ax (B:=w.heap.size) (g:=a) aa [.int .i64 1,z,true,false,oN] _ (j*5) E);go_roundw;case rel=>exact⟨j+1,aa,by go_num,ft,CG,ko,jv⟩
    case measure=>simp[intOf];omega
   ·have Fx:j=c.start.length:=by have:=N.Y;omega
    subst Fx;obtain⟨dR,dK,dN⟩:=af.aM J;go_wp2_with fail;have fh:=aQ (vs:=[oZ,.slice a c.chans.toNat c.chans.toNat,.slice f c.threads.toNat c.threads.toNat,.slice l c.threads.toNat c.threads.toNat]) J rfl;have nc:=e.bO (q:=w.heap.size+1) aa J ag ag 0 [oZ,.slice a c.chans.toNat c.chans.toNat,.slice f c.threads.toNat c.threads.toNat,.slice l c.threads.toNat c.threads.toNat];have gv:=ax (B:=w.heap.size) (g:=w.heap.size+1) aa [oZ,.slice a c.chans.toNat c.chans.toNat,.slice f c.threads.toNat c.threads.toNat,.slice l c.threads.toNat c.threads.toNat] _ 0 E;change bodyPost _ _ _ _ _ (aw wr (w.heap.size+1) 0 [oZ,.slice a c.chans.toNat c.chans.toNat,.slice f c.threads.toNat c.threads.toNat,.slice l c.threads.toNat c.threads.toNat]);clear dR dK dN aB aW;generalize aw wr (w.heap.size+1) 0 [oZ,.slice a c.chans.toNat c.chans.toNat,.slice f c.threads.toNat c.threads.toNat,.slice l c.threads.toNat c.threads.toNat]=wz at *;have fH:=fun i=>af.cell fh i;have T:ik c=⟨0,ME c c.chans.toNat c.start.length,List.replicate c.threads.toNat iz,List.replicate c.threads.toNat dD⟩:=by rw[VE];rfl
    have n9:HlG (ik c) w (.returned (.agg #[oZ,.slice a c.chans.toNat c.chans.toNat,.slice f c.threads.toNat c.threads.toNat,.slice l c.threads.toNat c.threads.toNat])) wz:=by rw[T];refine⟨some ⟨a,0,none⟩,some ⟨f,0,none⟩,some ⟨l,0,none⟩,c.chans.toNat,c.threads.toNat,c.threads.toNat,by dsimp only;rw[xG,gp,gp],?_,gv⟩;dsimp only;rw[xG,gp,gp];exact nc.bD aa
    refine bodyPost_ret (v:=.agg #[oZ,.slice a c.chans.toNat c.chans.toNat,.slice f c.threads.toNat c.threads.toNat,.slice l c.threads.toNat c.threads.toNat]) ?_ rfl n9;simp[results,results145,go_sem,fH]
end
theorem qO{α:Type}(f:List Int->α)(m:Nat):∀(j:Nat) (l:List Int),pieces f m (j+1) l=pieces f m j l++[f (l.drop (m*j))]
 |0,l=>by simp[pieces]
 |j+1,l=>by rw[pieces,qO f m j (l.drop m),pieces,List.cons_append,List.drop_drop,Nat.mul_succ,Nat.add_comm m]
theorem kP{α:Type}(f:List Int->α)(m:Nat):∀(j:Nat) (l:List Int),(pieces f m j l).length=j
 |0,_=>rfl
 |j+1,l=>by rw[pieces,List.length_cons,kP f m j]
structure vA (c:Mo.bA) (A:Option Addr) (n k:Nat) (w wr:World) (l1:List Int) (tk:Int) (v1 v2 v3:Value) (xs:List Mo.Ch) (ys:List Mo.Wt) (zs:List Mo.Rs) (gr gh:Nat):Prop where
 kc:af wr w 24 #[c.kind,c.threads,c.chans,c.cap,c.nodes,c.aL,c.aF,c.tags,c.bG,c.bt,.slice A n k]
 kr:af wr (w.heap.size+1) 71 #[oZ,oN,oN,oN]
 rd:jF wr (fun b=>b<w.heap.size) gr l1
 kh:af wr gh 71 #[tk,v1,v2,v3]
 ch:Qm wr (gr+1) v1 xs
 wt:lB wr (gr+1) v2 ys
 dn:aH wr (gr+1) 48 4 ej v3 zs
 ext:Below w w wr
 bO:gr<gh
 rg:w.heap.size+1<gr
theorem rr{P:sU α}(gd:Good P)(h:aI e m P w base (iU w) v xs)(o:∀b,iU w b\/v.ownBlock=some b->w'.heap[b]?=w.heap[b]?):aI e m P w' base (iU w') v xs :=
 (aI.move gd h (fun b a=>o b (.inl a)) (fun g i=>o g (.inr i))).mono gd fun b a=>by
  have:=o b (.inl a)
  rcases a with⟨f,c,d⟩|⟨f,c,d⟩
  ·exact .inl ⟨f,c,this.trans d⟩
  ·exact .inr ⟨f,c,this.trans d⟩
theorem aaw(h:jF w S g l):∃ys,af w g 280 ys:=by obtain⟨A,c,a,_⟩:=h;exact⟨_,a⟩
section
variable{c:Mo.bA} {A:Option Addr} {n k:Nat} {w wr w2:World} {l1 l2:List Int} {tk:Int} {v1 v2 v3:Value} {xs:List Mo.Ch} {ys:List Mo.Wt} {zs:List Mo.Rs} {gr gh:Nat}
theorem vA.by_(H:vA c A n k w wr l1 tk v1 v2 v3 xs ys zs gr gh)(C:jF w2 (fun b=>b<w.heap.size) gr l2)(r:∀b,b<wr.heap.size->b≠gr->w2.heap[b]?=wr.heap[b]?)(s:Below w w w2):vA c A n k w w2 l2 tk v1 v2 v3 xs ys zs gr gh:=by
 obtain⟨g,f⟩:=aaw H.rd;have d:∀b,iU wr b->b≠gr:=fun b a e=>by subst e;exact iU.not f ag ag a
 refine⟨(r _ H.kc.lt (by have:=H.rg;omega)).trans H.kc,(r _ H.kr.lt (by have:=H.rg;omega)).trans H.kr,C,(r _ H.kh.lt (by have:=H.bO;omega)).trans H.kh,?_,?_,?_,s,H.bO,H.rg⟩
 ·exact rr cP H.ch fun b a=>a.elim (fun h=>r b h.lt (d b h)) (fun h=>r b (aI.lt H.ch h).2 (by have:=(aI.lt H.ch h).1;omega))
 ·exact rr aR H.wt fun b a=>a.elim (fun h=>r b h.lt (d b h)) (fun h=>r b (aI.lt H.wt h).2 (by have:=(aI.lt H.wt h).1;omega))
 ·exact cJ H.dn fun b a=>r b (aX H.dn a).2 (by have:=(aX H.dn a).1;omega)
theorem vA.to(H:vA c A n k w wr l1 tk v1 v2 v3 xs ys zs gr gh)(a:eM wr (fun b=>b<w.heap.size) gr l2 w2):vA c A n k w w2 l2 tk v1 v2 v3 xs ys zs gr gh:=H.by_ a.1 a.2.1 (H.ext.trans (a.2.2.mono (by have:=H.rg;omega)))
theorem vA.more(H:vA c A n k w wr l1 tk v1 v2 v3 xs ys zs gr gh)(a:Below wr wr w2):vA c A n k w w2 l1 tk v1 v2 v3 xs ys zs gr gh:=H.by_ (H.rd.ext (fun b a=>by have:=H.kc.lt;omega) a) (fun b d _=>a.block b d) (ai H.ext a)
end
def rwC(x:Ch)(B:Option Addr)(d:Nat):Row 5:=⟨[x.gen,x.cap,x.used,x.closed,.slice B x.buf.length d],rfl,by intro u a;simp at a;rcases a with rfl|rfl|rfl|rfl|rfl<;>rfl⟩
def rwW(x:Wt)(B:Option Addr)(d:Nat):Row 4:=⟨[x.on,x.az,x.seq,.slice B x.cases.length d],rfl,by intro u a;simp at a;rcases a with rfl|rfl|rfl|rfl<;>rfl⟩
section
variable{c:Mo.bA} {A:Option Addr} {n k:Nat} {w wr w2:World} {l1 l2:List Int} {tk:Int} {v1 v2 v3:Value} {xs:List Mo.Ch} {ys:List Mo.Wt} {zs:List Mo.Rs} {gr gh:Nat} {w4:World} {v4:Value}
theorem vA.grown(H:vA c A n k w wr l1 tk v1 v2 v3 xs ys zs gr gh){row:Value}(hrow:∀b,row.ownBlock=some b->gr+1<=b/\∃ys j,wr.heap[b]?=some (.cells ys e j))(o:Obj)(r:(wr.alloc o).grownBy w4 row.ownBlock)(y:e≠3)(C:e≠110)(E:e≠71)(i:Nat)(u:Value) :
 (∀b,b<wr.heap.size->b≠gh->row.ownBlock≠some b->(w4.setCell ⟨gh,i,none⟩ u).heap[b]?=wr.heap[b]?)/\Below w w (w4.setCell ⟨gh,i,none⟩ u)/\af w4 gh 71 #[tk,v1,v2,v3]/\(∀b,iU wr b->b≠gh/\row.ownBlock≠some b):=by
 have h:∀b,b<wr.heap.size->row.ownBlock≠some b->w4.heap[b]?=wr.heap[b]?:=fun b a f=>(r.block b (by simp;omega) (fun g=>f g.symm)).trans ((ak (aj wr) o).block b a)
 have l:row.ownBlock≠some gh:=fun g=>by
  obtain⟨_,ys,j,d⟩:=hrow gh g
  have:=H.kh
  unfold af at this
  rw[this]at d
  injection d with d
  injection d with _ d
  exact E d.symm
 refine⟨fun b a f m=>(dp _ _ _ _ f).trans (h b a m),?_,(h gh H.kh.lt l).trans H.kh,fun b a=>⟨fun e=>by subst e;exact iU.not H.kh ag ag a,fun g=>?_⟩⟩
 ·refine Below.setCell ?_ (p:=⟨gh,i,none⟩) (by have:=H.bO;have:=H.rg;show w.heap.size<=gh;omega) u;exact Below.grown (ak H.ext o) r (by have:=H.ext.size;simp;omega) (fun b a=>by have:=(hrow b a).1;have:=H.rg;omega)
 ·obtain⟨_,ys,j,d⟩:=hrow b g;exact iU.not d y C a
theorem vA.keep(H:vA c A n k w wr l1 tk v1 v2 v3 xs ys zs gr gh)(o:∀b,b<wr.heap.size->b≠gh->v4.ownBlock≠some b->w2.heap[b]?=wr.heap[b]?)(p:∀b,v4.ownBlock=some b->gr+1<=b) :
 af w2 w 24 #[c.kind,c.threads,c.chans,c.cap,c.nodes,c.aL,c.aF,c.tags,c.bG,c.bt,.slice A n k]/\af w2 (w.heap.size+1) 71 #[oZ,oN,oN,oN]/\jF w2 (fun b=>b<w.heap.size) gr l1:=by
 have l:=H.bO
 have m:=H.rg
 have j:=H.kh.lt
 have a:∀b,b<=gr->w2.heap[b]?=wr.heap[b]?:=fun b i=>o b aa aa (fun h=>by have:=p b h;omega)
 obtain⟨B,d,e,f,g⟩:=H.rd
 refine⟨(a _ aa).trans H.kc,(a _ aa).trans H.kr,B,d,(a _ aa).trans e,f,g.same fun b i=>a b aa⟩
theorem eh{w:World}{n:Nat}{o:List Value}(h:w.ownsRow base e m v n o):∀b,v.ownBlock=some b->∃ys f,w.heap[b]?=some (.cells ys e f):=fun b a=>by
 rcases h.2 with⟨g,_⟩|⟨k,d,c,j,_,i,_⟩
 ·subst g;cases a
 ·subst j;injection a with a;subst a;exact⟨c,_,i⟩
theorem vA.aeE(H:vA c A n k w wr l1 tk v1 v2 v3 xs ys zs gr gh){rows:List (Row 5)}(z:rows.length=xs.length)(r2:aH wr (gr+1) 83 5 eA v1 rows)(C:∀(i:Nat) (r:Row 5) (x:Ch),rows[i]?=some r->xs[i]?=some x->Xr wr (iU wr) r.val x){x:Ch}(p:x.buf.length<=d)(y:dx wr (fun b=>q<=b/\Ty wr 3 b) .i64 B x.buf){o:Obj}(t:aH w4 (gr+1) 83 5 eA v4 (rows++[rwC x B d]))(s:(wr.alloc o).grownBy w4 v1.ownBlock):vA c A n k w (w4.setCell ⟨gh,1,none⟩ v4) l1 tk v4 v2 v3 (xs++[x]) ys zs gr gh:=by
 obtain⟨g1,l,f,g⟩:=H.grown (row:=v1) (fun b hb=>⟨(aX r2 hb).1,eh r2 b hb⟩) o s ag ag ag 1 v4
 obtain⟨m,u,v⟩:=H.keep (v4:=v1) g1 (fun b hb=>(aX r2 hb).1)
 have nB:Sm (iU wr) wr (w4.setCell ⟨gh,1,none⟩ v4):=fun b hb=>g1 b hb.lt (g b hb).1 (g b hb).2
 have j:∀b,iU wr b->iU (w4.setCell ⟨gh,1,none⟩ v4) b:=fun b hb=>by exact XY
 refine⟨m,u,v,f.bj 1 _,?_,?_,?_,l,H.bO,H.rg⟩
 ·refine(aI.app cP z C nB (bK t f ag 1 v4) (x:=x) ⟨B,d,rfl,p,?_⟩).mono cP j;exact(dx.mono (fun b hb=>.inl hb.2) y).same nB
 ·refine rr aR H.wt fun b hb=>?_;rcases hb with hb|hb
  ·exact nB b hb
  ·refine g1 b (aI.lt H.wt hb).2 (aI.other H.wt H.kh ag b hb) (fun he=>?_);obtain⟨D,_,a,_⟩:=H.wt;exact dH a r2 ag hb he.symm
 ·exact XZ
theorem vA.aeF(H:vA c A n k w wr l1 tk v1 v2 v3 xs ys zs gr gh){rows:List (Row 4)}(z:rows.length=ys.length)(r2:aH wr (gr+1) 79 4 eA v2 rows)(C:∀(i:Nat) (r:Row 4) (x:Wt),rows[i]?=some r->ys[i]?=some x->Xs wr (iU wr) r.val x)(p:x.cases.length<=d)(y:dG wr (fun b=>q<=b/\Ty wr 110 b) bC B x.cases){o:Obj}(t:aH w4 (gr+1) 79 4 eA v4 (rows++[rwW x B d]))(s:(wr.alloc o).grownBy w4 v2.ownBlock):vA c A n k w (w4.setCell ⟨gh,2,none⟩ v4) l1 tk v1 v4 v3 xs (ys++[x]) zs gr gh:=by
 obtain⟨g1,l,f,g⟩:=H.grown (row:=v2) (fun b hb=>⟨(aX r2 hb).1,eh r2 b hb⟩) o s ag ag ag 2 v4
 obtain⟨m,u,v⟩:=H.keep (v4:=v2) g1 (fun b hb=>(aX r2 hb).1)
 have nB:Sm (iU wr) wr (w4.setCell ⟨gh,2,none⟩ v4):=fun b hb=>g1 b hb.lt (g b hb).1 (g b hb).2
 have j:∀b,iU wr b->iU (w4.setCell ⟨gh,2,none⟩ v4) b:=fun b hb=>by exact XY
 refine⟨m,u,v,f.bj 2 _,?_,?_,?_,l,H.bO,H.rg⟩
 ·refine rr cP H.ch fun b hb=>?_;rcases hb with hb|hb
  ·exact nB b hb
  ·refine g1 b (aI.lt H.ch hb).2 (aI.other H.ch H.kh ag b hb) (fun he=>?_);obtain⟨D,_,a,_⟩:=H.ch;exact dH a r2 ag hb he.symm
 ·refine(aI.app aR z C nB (bK t f ag 2 v4) (x:=x) ⟨B,d,rfl,p,?_⟩).mono aR j;exact(dG.mono (fun b hb=>.inr hb.2) y).same nB
 ·exact XZ
theorem vA.aeG(H:vA c A n k w wr l1 tk v1 v2 v3 xs ys zs gr gh){o:List Rs}(r:aH wr (gr+1) 48 4 ej v4 o):vA c A n k w (wr.setCell ⟨gh,3,none⟩ v4) l1 tk v1 v2 v4 xs ys o gr gh:=by
 have f:∀b,b≠gh->(wr.setCell ⟨gh,3,none⟩ v4).heap[b]?=wr.heap[b]?:=fun b a=>dp _ _ _ _ a;have g:∀b,iU wr b->b≠gh:=fun b a e=>by subst e;exact iU.not H.kh ag ag a
 have l:=H.bO;have m:=H.rg;obtain⟨B,d,h,i,j⟩:=H.rd;refine⟨(f _ aa).trans H.kc,(f _ aa).trans H.kr,⟨B,d,(f _ aa).trans h,i,j.same fun b a=>f b aa⟩,H.kh.bj 3 _,?_,?_,bK r H.kh ag 3 v4,H.ext.setCell (p:=⟨gh,3,none⟩) (by show w.heap.size<=gh;omega) _,H.bO,H.rg⟩
 ·exact rr cP H.ch fun b a=>f b (a.elim (g b) (aI.other H.ch H.kh ag b))
 ·exact rr aR H.wt fun b a=>f b (a.elim (g b) (aI.other H.wt H.kh ag b))
theorem yY(l:List Int):∀(n:Nat),n<=l.length->pieces (fun l=>cL (l.getD 0 0)) 1 n l=(l.take n).map cL:=by
 intro n;induction n generalizing l with
 |zero=>intro _;rfl
 |succ n b =>
  intro a;cases l with
  |nil=>simp at a
  |cons z l=>rw[pieces];simp only[List.drop_succ_cons,List.drop_zero,List.take_succ_cons,List.map_cons];rw[b l (by simp at a;omega)];rfl
end
theorem sw{α:Type}{f:List Int->α}{m:Nat}{x:α}:∀{n:Nat} {l:List Int},x∈pieces f m n l->∃q,x=f q
 |0,_,h=>by cases h
 |n+1,l,h=>by
  rw[pieces]at h
  rcases List.mem_cons.1 h with h|h
  ·exact⟨_,h⟩
  ·exact sw h
def acL(c:bA)(l:List Int)(w:World)(e:Ending)(a:World):Prop :=
 (∃h,j9 c l=some h/\∃A1 A2 A3 m1 m2 m3,e=.returned (.tuple #[.agg #[h.az,.slice A1 h.chans.length m1,.slice A2 h.waits.length m2,.slice A3 h.done.length m3],true])/\xi a w h A1 A2 A3 h.chans.length h.waits.length h.done.length m1 m2 m3/\Below w w a) \/
 (j9 c l=none/\e=.returned (.tuple #[.agg #[oZ,oN,oN,oN],false])/\Below w w a)
section
variable(w:World)
theorem MF(hc:aU c=true)(hk:c.kind=3)(hn:n=c.start.length)(hr:bJ w .i64 A c.start)(l:List Int)(D:Option Addr)(V dd:Nat)(j5:V=l.length)(lK:(l.length:Int)=bn c)(lv:V<=dd)(hu:fE l)(hD:bJ w .u64 D l) :
 Calls prog 250 #[.agg #[c.kind,c.threads,c.chans,c.cap,c.nodes,c.aL,c.aF,c.tags,c.bG,c.bt,.slice A n k],.slice D V dd] w (acL c l w):=by
 have hp:=Mo.aK hc
 have e5:=size_le hc
 have rL:(c.chans.toNat:Int)=c.chans:=Int.toNat_of_nonneg hp.2.2.2.2.2.2.2.1
 have U4:(c.threads.toNat:Int)=c.threads:=Int.toNat_of_nonneg (by omega)
 have dM:l.length=1+((1+c.cap.toNat)*c.chans.toNat+4*c.threads.toNat+c.threads.toNat):=by
  have h1:=lK;unfold bn eX at h1;rw[ah (by rw[hc];decide),ah (by rw[hc];decide),au hk, <-rL, <-U4]at h1;have h2:(c.cap.toNat:Int)=c.cap:=Int.toNat_of_nonneg hp.2.2.2.2.2.2.1.1;rw[<-h2]at h1;have h3:(((c.chans.toNat*(1+c.cap.toNat):Nat)):Int)=(c.chans.toNat:Int)*(1+(c.cap.toNat:Int)):=by push_cast;rfl
  rw[<-h3,Nat.mul_comm c.chans.toNat]at h1;omega
 have Ie:=ae dM
 have e8:V<=2000:=by omega
 obtain⟨HDL,C6,HU,HC,HN,Co⟩:=cT j5 lK hu hc hn hr;obtain⟨lX,SH,NP,ea,vZ,jI⟩:=cT hD rL U4 hk (fun wx (y:Below w w wx)=>gJ wx hc hn (hr.below y) (k:=k)) (fun wx (y:Below w w wx)=>yB wx hc hn (hr.below y) (k:=k))
 have b1:0<=c.chans:=hp.2.2.2.2.2.2.2.1
 have b2:c.chans<=8:=hp.2.2.2.2.2.2.2.2
 have b3:1<=c.threads:=hp.1.1
 have b4:c.threads<=64:=hp.1.2
 have dk:(c.kind !=3)=false:=by rw[hk];rfl
 have dz:((V:Int) !=bn c)=false:=by rw[j5,lK];simp
 clear hp e5 dM lK hu hc hn hr hD hk rL U4 j5
 have bM:Hid (Below w w ((w.alloc (dV c A n k)).alloc Av)):=ak (ak (aj w) _) _
 have pL:Hid (af ((w.alloc (dV c A n k)).alloc Av) w 24 #[c.kind,c.threads,c.chans,c.cap,c.nodes,c.aL,c.aF,c.tags,c.bG,c.bt,.slice A n k]):=(af.new _ _ _).alloc _
 have qM:Hid (af ((w.alloc (dV c A n k)).alloc Av) (w.heap.size+1) 71 #[oZ,oN,oN,oN]):=(af.newAt _ _ _ (by simp))
 go_enter func250,ntmps250
 go_wp2_with fail
 go_fit (vZ _ bM)
 rintro e w1 ⟨rfl,a6⟩
 obtain⟨br,fY,iT⟩:=aZ (ai bM a6) (pL.ai a6) (qM.ai a6)
 clear a6
 obtain⟨d,-,K⟩:=af.aM fY
 go_wp2_with fail
 go_fit (jI _ br)
 rintro e w2 ⟨rfl,a7⟩
 obtain⟨bE,ko,jh⟩:=aZ (ai br a7) (fY.ai a7) (iT.ai a7)
 clear a7 d K
 obtain⟨d,-,K⟩:=af.aM ko
 go_wp2_with fail
 have F:Hid (jF (w2.alloc (.cells #[.slice D V dd] 280)) (fun b=>b<w.heap.size) w2 l):=by exact acM
 obtain⟨cM,ub,fZ⟩:=aZ (ak bE (.cells #[.slice D V dd] 280)) (ko.alloc (.cells #[.slice D V dd] 280)) (jh.alloc (.cells #[.slice D V dd] 280))
 have dc:w.heap.size+1<w2.heap.size:=jh.lt
 obtain⟨G,hg⟩:∃G,G=w2.heap.size:=⟨_,rfl⟩
 rw[<-hg]at F dc ⊢
 clear hg d K
 generalize(w2.alloc (.cells #[.slice D V dd] 280))=w3 at *
 have cO:=mP w3 F (fun b p=>by omega) (by have:=HDL.Y;omega)
 (with_reducible go_fit cO)
 rintro e w4 ⟨rfl,hT⟩
 obtain⟨x0,a8⟩:∃x0,x0=l.getD 0 0:=⟨_,rfl⟩
 have FE:=HU.at_ 0
 have dQ:ay l 0=x0:=a8.symm
 rw[dQ]at FE
 unfold uj at FE
 obtain⟨f,Ds⟩:∃f,f=x0%4294967296:=⟨_,rfl⟩
 have hand:bits BinOp.and IntKind.u64 x0 4294967295=f:=by rw[Ds];exact BI _ FE.1 FE.2
 have t0:0<=f:=by omega
 have t1:f<4294967296:=by omega
 have oL:Hid (f=l.getD 0 0%4294967296):=by unfold Hid;rw[Ds,a8]
 rw[<-a8]
 have jU:G<w4.heap.size:=hT.1.lt
 have cw:af w4 w 24 #[c.kind,c.threads,c.chans,c.cap,c.nodes,c.aL,c.aF,c.tags,c.bG,c.bt,.slice A n k]:=(hT.2.1 _ ub.lt (by omega)).trans ub
 have dg:af w4 (w.heap.size+1) 71 #[oZ,oN,oN,oN]:=(hT.2.1 _ fZ.lt (by omega)).trans fZ
 have H0:Hid (vA c A n k w (w4.alloc (uB f none 0 0 none 0 0 none 0 0)) (l.drop 1) f oN oN oN [] [] [] G w4.heap.size):=⟨cw.alloc _,dg.alloc _,hT.1.ext (fun b p=>by omega) (ak (aj w4) _),af.new _ _ _,aI.nil _ _ _ _ _ _,aI.nil _ _ _ _ _ _,aH.nil _ _ _ _ _,(cM.trans (hT.2.2.mono (by omega))).alloc (by omega) _,jU,dc⟩
 clear a8 FE dQ Ds cO hT bM pL qM br fY iT bE ko jh cM ub fZ F dz dk vZ jI
 obtain⟨d,-,K⟩:=af.aM cw
 go_wp2_with fail
 clear cw dg hand d K
 obtain⟨O,c4⟩:∃O,O=w4.heap.size:=⟨_,rfl⟩
 rw[<-c4]at H0 ⊢
 generalize(w4.alloc (uB f none 0 0 none 0 0 none 0 0))=wa at *
 clear c4 jU
 go_loopw[34] (fun i wr=>∃(j:Nat) (v1:Value),j<=c.chans.toNat/\i=j/\Hid (vA c A n k w wr ((l.drop 1).drop ((1+c.cap.toNat)*j)) f v1 oN oN (pieces (jt c) (1+c.cap.toNat) j (l.drop 1)) [] [] G O)) (fun i _=>c.chans.toNat-(intOf i).toNat)
 case atStart=>exact⟨0,_,aV _,rfl,by rw[Nat.mul_zero,List.drop_zero];exact H0.Y⟩
 case round =>
  clear H0;obtain⟨j,v1,hj,rfl,H⟩:=hrel;by_cases eQ:(j:Int)<c.chans
  ·have Fx:j<c.chans.toNat:=by omega
   obtain⟨m,J8⟩:∃m,m=pieces (jt c) (1+c.cap.toNat) j (l.drop 1):=⟨_,rfl⟩
   have VF:m.length=j:=by rw[J8];exact kP _ _ _ _
   obtain⟨M,a⟩:∃M,M=(l.drop 1).drop ((1+c.cap.toNat)*j):=⟨_,rfl⟩
   have hm:(1+c.cap.toNat)*j+(1+c.cap.toNat)<=(1+c.cap.toNat)*c.chans.toNat:=by rw[<-Nat.mul_succ];exact Nat.mul_le_mul_left _ Fx
   have Ig:(1+c.cap.toNat)<=M.length/\M.length<=100000:=by rw[a,ie,ie,Ie.Y];have:=Ie.Y;have:=HDL.Y;omega
   have X0:∀z∈M,0<=z/\z<18446744073709551616:=fun z hz=>HU z (List.mem_of_mem_drop (List.mem_of_mem_drop (by rw[<-a];exact hz)));rw[<-J8, <-a]at H;obtain⟨I,L,zJ⟩:=H.ch.shape;have yX:Below wr wr wr.drew:=(aj wr).drew;have J9:∀b,b<w.heap.size->b<wr.drew.heap.size:=fun b p=>by have:=H.kc.lt;show b<wr.heap.size;omega
   have P:∀b,b<w.heap.size->b≠G:=fun b p=>by have:=H.rg;omega
   have Ih:=Lz wr.drew HC (k:=k) (n:=n) (A:=A) (H.more yX).rd P J9 Ig.2 Ig.1 X0;obtain⟨x,y⟩:∃x,x=jt c M:=⟨_,rfl⟩
   rw[<-y]at Ih;obtain⟨bo,HX,J,De⟩:=bN Ih y J8 a;rw[VF]at zJ;subst zJ;obtain⟨d,-,K⟩:=af.aM H.kc;obtain⟨t,-,u⟩:=af.aM H.kh;clear Ih y J8 a Ig X0 J9 P hm;go_wp2;go_region_law(first
    |(go_simp;go_at_call 259;(with_reducible go_fit bo.Y);rintro e w5 ⟨B3,d3,rfl,XC,R,VG⟩;have s:=(H.more yX).to VG;have b6:=fun i=>af.cell s.kh i;have b7:=fun i=>af.free s.kh i;have b8:=s.kh.lt;have Ox:=s.ext.size;have cd:=s.ch;obtain⟨rows,q1,q2,q3⟩:=cd;have jU:=q1.trans VF;have hrg3:=s.rd.lt;have H3:=ae s;have Q3:=ae q3;have X3:=ae R;clear s q3 R VG;go_wp2_with fail)
    |(refine mh rfl _ _ 67 rfl (G+1) 83 5 48 (.agg #[oZ,oZ,false,false,oN]) eA b9 fX underlying67 sf rfl (by decide) _ rows rfl ?_ w5 1 1 [rwC x B3 d3] rfl rfl ?_ ?_ ?_ ?_ ?_;(exact q2.alloc _);(exact Rd.lit w5 (rwC x B3 d3).val _);(simp;omega);(simp;omega);(simp;omega);intro v4 w6 bR bg cy;clear cy;have hA:=H3.aeE q1 q2 Q3 XC X3 bR bg;obtain⟨Y,k4,Q⟩:=bR.shape;rw[eW,gL,jU]at Q;subst Q;have F:=ae hA;have Z:=H3.grown (row:=.slice I j L) (fun b p=>⟨(aX q2 p).1,eh q2 b p⟩) _ bg (by decide) (by decide) (by decide) 1 (.slice Y (j+1) k4);have bz:=fun i=>af.cell Z.2.2.1 i;have bY:=fun i=>af.free Z.2.2.1 i;have b5:=Z.2.2.1.lt;clear hA Z bR bg;go_wp2_with fail))
   all_goals
    have n9:vA c A n k w (w6.setCell ⟨O,1,none⟩ (.slice Y (j+1) k4)) ((l.drop 1).drop ((1+c.cap.toNat)*(j+1))) f (.slice Y (j+1) k4) oN oN (pieces (jt c) (1+c.cap.toNat) (j+1) (l.drop 1)) [] [] G O:=by rw[qO, <-J.Y, <-De.Y, <-HX.Y,Nat.mul_succ, <-List.drop_drop, <-De.Y];exact F.Y
    have HF:=ae n9;clear n9 bz bY b5 d t K u b6 b7 b8;generalize w6.setCell ⟨O,1,none⟩ (.slice Y (j+1) k4)=w7 at *;exact X1
  ·have Fx:j=c.chans.toNat:=by omega
   subst Fx;have C:=ae H;obtain⟨d,-,K⟩:=af.aM C.kc;clear H;go_wp2_with fail;clear d K;obtain⟨vC,dP⟩:∃vC,vC=v1:=⟨_,rfl⟩
   rw[<-dP]at C;clear dP;go_loopw[47] (fun i wr=>∃(j:Nat) (v2:Value),j<=c.threads.toNat/\i=j/\Hid (vA c A n k w wr (((l.drop 1).drop ((1+c.cap.toNat)*c.chans.toNat)).drop (4*j)) f vC v2 oN (pieces (jt c) (1+c.cap.toNat) c.chans.toNat (l.drop 1)) (pieces jL 4 j ((l.drop 1).drop ((1+c.cap.toNat)*c.chans.toNat))) [] G O)) (fun i _=>c.threads.toNat-(intOf i).toNat);case atStart=>exact⟨0,_,aV _,rfl,by rw[Nat.mul_zero,List.drop_zero];exact C.Y⟩
   case round =>
    clear C;obtain⟨j,v2,hj,rfl,H⟩:=hrel;obtain⟨m,J8⟩:∃m,m=(pieces (jt c) (1+c.cap.toNat) c.chans.toNat (l.drop 1)):=⟨_,rfl⟩
    have J:=ae J8;rw[<-J8]at H;clear J8;by_cases eQ:(j:Int)<c.threads
    ·have Fx:j<c.threads.toNat:=by omega
     obtain⟨o,r⟩:∃o,o=pieces jL 4 j ((l.drop 1).drop ((1+c.cap.toNat)*c.chans.toNat)):=⟨_,rfl⟩
     have dS:o.length=j:=by rw[r];exact kP _ _ _ _
     obtain⟨M,a⟩:∃M,M=((l.drop 1).drop ((1+c.cap.toNat)*c.chans.toNat)).drop (4*j):=⟨_,rfl⟩
     have Ig:4<=M.length/\M.length<=100000:=by rw[a,ie,ie,ie,Ie.Y];have:=Ie.Y;have:=HDL.Y;omega
     have X0:∀z∈M,0<=z/\z<18446744073709551616:=fun z hz=>HU z (List.mem_of_mem_drop (List.mem_of_mem_drop (List.mem_of_mem_drop (by rw[<-a];exact hz))));rw[<-r, <-a]at H;obtain⟨I,L,zJ⟩:=H.wt.shape;have yX:Below wr wr wr.drew:=(aj wr).drew;have J9:∀b,b<w.heap.size->b<wr.drew.heap.size:=fun b p=>by have:=H.kc.lt;show b<wr.heap.size;omega
     have P:∀b,b<w.heap.size->b≠G:=fun b p=>by have:=H.rg;omega
     have Ih:=LA wr.drew (H.more yX).rd P J9 Ig.2 Ig.1 X0;obtain⟨x,y⟩:∃x,x=jL M:=⟨_,rfl⟩
     rw[<-y]at Ih;obtain⟨bo,HX,eo,De⟩:=bN Ih y r a;rw[dS]at zJ;subst zJ;obtain⟨t,-,u⟩:=af.aM H.kh;clear Ih y r a Ig X0 J9 P;go_wp2;go_region_law(first
      |(go_simp;go_at_call 260;(with_reducible go_fit bo.Y);rintro e w5 ⟨B3,d3,rfl,XC,R,VG⟩;have s:=(H.more yX).to VG;have b6:=fun i=>af.cell s.kh i;have b7:=fun i=>af.free s.kh i;have b8:=s.kh.lt;have Ox:=s.ext.size;have cd:=s.wt;obtain⟨rows,q1,q2,q3⟩:=cd;have jU:=q1.trans dS;have hrg3:=s.rd.lt;have H3:=ae s;have Q3:=ae q3;have X3:=ae R;clear s q3 R VG;go_wp2_with fail)
      |(refine mh rfl _ _ 68 rfl (G+1) 79 4 48 (.agg #[false,oZ,oZ,oN]) eA b9 fX underlying68 sg rfl (by decide) _ rows rfl ?_ w5 1 1 [rwW x B3 d3] rfl rfl ?_ ?_ ?_ ?_ ?_;(exact q2.alloc _);(exact Rd.lit w5 (rwW x B3 d3).val _);(simp;omega);(simp;omega);(simp;omega);intro v4 w6 bR bg cy;clear cy;have hA:=H3.aeF q1 q2 Q3 XC X3 bR bg;obtain⟨Y,k4,Q⟩:=bR.shape;rw[eW,gL,jU]at Q;subst Q;have F:=ae hA;have Z:=H3.grown (row:=.slice I j L) (fun b p=>⟨(aX q2 p).1,eh q2 b p⟩) _ bg (by decide) (by decide) (by decide) 2 (.slice Y (j+1) k4);have bz:=fun i=>af.cell Z.2.2.1 i;have bY:=fun i=>af.free Z.2.2.1 i;have b5:=Z.2.2.1.lt;clear hA Z bR bg;go_wp2_with fail))
     all_goals
      have n9:vA c A n k w (w6.setCell ⟨O,2,none⟩ (.slice Y (j+1) k4)) (((l.drop 1).drop ((1+c.cap.toNat)*c.chans.toNat)).drop (4*(j+1))) f vC (.slice Y (j+1) k4) oN (pieces (jt c) (1+c.cap.toNat) c.chans.toNat (l.drop 1)) (pieces jL 4 (j+1) ((l.drop 1).drop ((1+c.cap.toNat)*c.chans.toNat))) [] G O:=by rw[qO, <-J.Y, <-eo.Y, <-De.Y, <-HX.Y,Nat.mul_succ, <-List.drop_drop (i:=4), <-De.Y];exact F.Y
      have HF:=ae n9;clear n9 bz bY b5 t u b6 b7 b8;generalize w6.setCell ⟨O,2,none⟩ (.slice Y (j+1) k4)=w7 at *;exact X1
    ·have Fx:j=c.threads.toNat:=by omega
     subst Fx;have C:=ae H;clear H;obtain⟨l3,FF⟩:∃l3,l3=(((l.drop 1).drop ((1+c.cap.toNat)*c.chans.toNat)).drop (4*c.threads.toNat)):=⟨_,rfl⟩
     have er:l3.length=c.threads.toNat:=by rw[FF,ie,ie,ie,Ie.Y];omega
     have X0:∀z∈l3,0<=z/\z<18446744073709551616:=fun z hz=>HU z (List.mem_of_mem_drop (List.mem_of_mem_drop (List.mem_of_mem_drop (by rw[<-FF];exact hz))));rw[<-FF]at C;have cv:=tT wr C.rd (fun b p=>by have:=C.rg;omega) (fun b p=>by have:=C.kc.lt;omega) (by omega) c.threads.toNat (by omega) X0;rw[NP.Y]at cv;have df:nI c l=⟨f,m,pieces jL 4 c.threads.toNat ((l.drop 1).drop ((1+c.cap.toNat)*c.chans.toNat)),tS l3 c.threads.toNat⟩:=by unfold nI;dsimp only;rw[<-oL.Y,J.Y,yY _ _ (by rw[<-FF];omega), <-FF];rfl
     obtain⟨N,aq⟩:=av cv df;obtain⟨o,r⟩:∃o,o=pieces jL 4 c.threads.toNat ((l.drop 1).drop ((1+c.cap.toNat)*c.chans.toNat)):=⟨_,rfl⟩
     rw[<-r]at C aq;have en:Hid (o.length=c.threads.toNat):=by unfold Hid;rw[r];exact kP _ _ _ _
     have ei:Hid (m.length=c.chans.toNat):=by unfold Hid;rw[J.Y];exact kP _ _ _ _
     have xB:Hid ((tS l3 c.threads.toNat).length=c.threads.toNat):=by unfold Hid tS;rw[cW,fF];omega
     have dU:Hid (∀x∈m,x.buf.length<=100000):=fun x y=>by
      rw[J.Y]at y
      obtain⟨q,rfl⟩:=sw y
      unfold jt
      dsimp only
      rw[cW,fF,fF]
      have:=(Mo.aK HC).2.2.2.2.2.2.1
      omega
     have Df:Hid (∀x∈o,x.cases.length<=100000):=fun x y=>by
      rw[r]at y
      obtain⟨q,rfl⟩:=sw y
      unfold jL
      dsimp only
      rw[cW,fF,fF]
      omega
     clear FF er X0 cv df r;obtain⟨E,dT⟩:∃E,E=tS l3 c.threads.toNat:=⟨_,rfl⟩
     rw[<-dT]at N aq xB;clear dT;obtain⟨I,L,zJ⟩:=C.ch.shape;obtain⟨X,k2,e6⟩:=C.wt.shape;subst zJ e6;obtain⟨d,-,K⟩:=af.aM C.kc;go_wp2_with fail;(with_reducible go_fit N.Y);rintro e w5 ⟨vD,rfl,ct,hT⟩;obtain⟨T,W,e7⟩:=aH.shape ct;subst e7;have Ii:=C.to hT;have F:=ae (Ii.aeG (ct.bD (base':=G+1) C.rd.lt));obtain⟨t,eF,u⟩:=af.aM Ii.kh;obtain⟨c2,-,c3⟩:=af.aM Ii.kc;have e9:=Ii.rg;have PJ:=Ii.bO;clear Ii ct hT d K C N;go_wp2_with fail;clear t eF u c2 c3;generalize w5.setCell ⟨O,3,none⟩ (.slice T E.length W)=w6 at *;have cF:=(F.dn.zX).2;have c0:=Ea w6 HC HN (Co.below F.ext) ⟨f,m,o,E⟩ I X T m.length o.length E.length L k2 W rfl rfl rfl (S:=fun b=>b<w6.heap.size) (fun b p=>p) (kF.mono cP (fun b p=>p.lt) F.ch.Ma) (kF.mono aR (fun b p=>p.lt) F.wt.Ma) ⟨cF,fun ad ha hne=>by subst ha;exact(aX F.dn rfl).2⟩ (by have:=ei.Y;omega) (by have:=en.Y;omega) (by have:=xB.Y;omega) dU Df (k:=k) (n:=n);have cz:=ae c0;clear c0 cF;(with_reducible go_fit (cz.Y.mono fun _ _ h=>h.J.bD));rintro e w7 ⟨⟨B7,d7,rfl,(Ah:Hid _)⟩,vu⟩;have En:=ae (F.more vu);clear vu;obtain⟨PW,VH⟩:∃PW,PW=lg c ⟨f,m,o,E⟩:=⟨_,rfl⟩
     have cC:=ae VH;have Cw:Hid (PW.length<=100000):=by
      unfold Hid;rw[VH];by_cases hf:gq c ⟨f,m,o,E⟩=true
      ·have:=xZ (q8.1 hf);have:=C6.Y;have:=HDL.Y;omega
      ·unfold lg;rw[ah hf];exact aV _
     rw[<-VH]at Ah ⊢;clear VH F cz;obtain⟨d,-,K⟩:=af.aM En.kc;go_wp2_with fail;have cn:=Ba w7 B7 D d7 dd PW l Cw (by have:=HDL.Y;omega) Ah (lX.below En.ext);rw[<-HDL.Y]at cn;have Fz:=ae cn;clear cn;(with_reducible go_fit Fz.Y);rintro e w8 ⟨rfl,X2⟩;have U:=ae (En.more X2.ai);clear X2 d K Fz Ah En;obtain⟨dR,dK,dN⟩:=af.aM U.kr;obtain⟨t,-,u⟩:=af.aM U.kh;by_cases he:PW=l
     ·have Rm:decide (PW=l)=true:=eE he;have Ro:Hid (j9 c l=some ⟨f,m,o,E⟩):=by
       unfold Hid j9;rw[aq.Y,au (by rw[HC.Y, <-cC.Y,he,C6.Y];simp[ea.Y])]
      rw[Rm];clear Rm he;go_wp2_with fail;have fh:=aQ (vs:=[f,.slice I m.length L,.slice X o.length k2,.slice T E.length W]) U.kr rfl;have ez:xi w8 (G+1) ⟨f,m,o,E⟩ I X T m.length o.length E.length L k2 W:=⟨U.ch,U.wt,U.dn⟩
      have nc:=ez.bO (q:=w.heap.size+1) (by omega) U.kr (by decide) (by decide) 0 [f,.slice I m.length L,.slice X o.length k2,.slice T E.length W];have gv:=ax (B:=w.heap.size) (g:=w.heap.size+1) (by omega) [f,.slice I m.length L,.slice X o.length k2,.slice T E.length W] _ 0 U.ext;change bodyPost _ _ _ _ _ (aw w8 (w.heap.size+1) 0 [f,.slice I m.length L,.slice X o.length k2,.slice T E.length W]);clear dR dK dN t u;generalize aw w8 (w.heap.size+1) 0 [f,.slice I m.length L,.slice X o.length k2,.slice T E.length W]=wz at *;have fH:=fun i=>af.cell fh i;refine bodyPost_ret (v:=.tuple #[.agg #[f,.slice I m.length L,.slice X o.length k2,.slice T E.length W],true]) ?_ rfl (.inl ⟨_,Ro,I,X,T,L,k2,W,rfl,nc.bD (by omega),gv⟩);simp[results,results250,go_sem,fH]
     ·have Rm:decide (PW=l)=false:=bU he;have Ro:Hid (j9 c l=none):=by
       unfold Hid j9;rw[aq.Y,ah (by rw[<-cC.Y];simp[he])]
      rw[Rm];clear Rm he;go_wp2_with fail;have fh:=aQ (vs:=[oZ,oN,oN,oN]) U.kr rfl;have gv:=ax (B:=w.heap.size) (g:=w.heap.size+1) (by omega) [oZ,oN,oN,oN] _ 0 U.ext;change bodyPost _ _ _ _ _ (aw w8 (w.heap.size+1) 0 [oZ,oN,oN,oN]);clear dR dK dN t u;generalize aw w8 (w.heap.size+1) 0 [oZ,oN,oN,oN]=wz at *;have fH:=fun i=>af.cell fh i;refine bodyPost_ret (v:=.tuple #[.agg #[oZ,oN,oN,oN],false]) ?_ rfl (.inr ⟨Ro,rfl,gv⟩);simp[results,results250,go_sem,fH]
end
structure sA (v:World) (g:Nat) (w w':World):Prop where
 le:w.heap.size<=w'.heap.size
 eq:∀b,b<w.heap.size->b≠g->w'.heap[b]?=w.heap[b]?
 ext:Below v v w'
 bO:v.heap.size<=g/\v.heap.size<=w.heap.size
section
variable{v w a b:World} {g:Nat}
theorem sA.start(r:Below v v w)(s:v.heap.size<g):sA v g w w.drew:=⟨aS _,fun _ _ _=>rfl,r.drew,aa,r.size⟩
theorem sA.below(h:sA v g a b)(k:Below b b w):sA v g a w:=⟨bq h.le k.size,fun i c d=>(k.block i (by have:=h.le;omega)).trans (h.eq i c d),ai h.ext k,h.bO⟩
theorem sA.alloc(h:sA v g a b)(o:Obj):sA v g a (b.alloc o):=h.below (ak (aj b) o)
theorem sA.gR(r:Below v v w)(s:v.heap.size<g)(o:Obj):sA v g w (w.alloc o).drew :=
 have h:=(sA.start r s).alloc o
 ⟨h.le,h.eq,h.ext,h.bO⟩
theorem sA.rdr(h:sA v g a b)(k:eM b S g l w):sA v g a w:=⟨bq h.le k.2.2.size,fun i d c=>(k.2.1 i (by have:=h.le;omega) c).trans (h.eq i d c),h.ext.trans (k.2.2.mono h.bO.1),h.bO⟩
theorem sA.set(h:sA v g a b){p:Addr}(r:a.heap.size<=p.block):sA v g a (b.setCell p u):=⟨by rw[World.size_setCell];exact h.le,fun i c d=>(dp _ _ _ _ aa).trans (h.eq i c d),h.ext.setCell (bq h.bO.2 r) _,h.bO⟩
theorem sA.blk{t:TypeId}(h:sA v g a b)(k:af a q t cs)(r:q≠g):af b q t cs:=(h.eq q k.lt r).trans k
theorem VI{p:List Int}{k:IntKind}(h:aJ a (g+1) e k u p)(o:Below a a b)(q:eM b S g l w):aJ w (g+1) e k u p:=cJ (h.ai o) fun i c=>q.2.1 i (aX (h.ai o) c).2 (by have:=(aX h c).1;omega)
end
structure xj (w:World) (base:Nat) (x:Mo.Cl) (A1 A3:Option Addr) (n1 n3 m1 m3:Nat):Prop where
 ls:aJ w base 3 .i64 (.slice A1 n1 m1) x.list
 dn:aH w base 48 4 ej (.slice A3 n3 m3) x.done
theorem xj.more{x:Cl}(h:xj w base x A1 A3 n1 n3 m1 m3)(a:Below w w w'):xj w' base x A1 A3 n1 n3 m1 m3:=⟨h.ls.ai a,h.dn.ai a⟩
theorem xj.bD{x:Cl}(h:xj w base x A1 A3 n1 n3 m1 m3)(a:base'<=base):xj w base' x A1 A3 n1 n3 m1 m3:=⟨h.ls.bD a,h.dn.bD a⟩
theorem xj.bO{x:Cl}(h:xj w base x A1 A3 n1 n3 m1 m3)(hq:q<base)(o:Nat)(vs:List Value):xj (aw w q o vs) base x A1 A3 n1 n3 m1 m3:=⟨cm (fun b a=>by have:=(aX h.ls a).1;omega) _ _ _ _ h.ls,cm (fun b a=>by have:=(aX h.dn a).1;omega) _ _ _ _ h.dn⟩
def CH(x:Cl)(w:World)(e:Ending)(a:World):Prop:=∃A1 A3 m1 m3,e=.returned (.agg #[x.cap,.slice A1 x.list.length m1,.slice A3 x.done.length m3])/\xj a w x A1 A3 x.list.length x.done.length m1 m3/\Below w w a
def aaD(c:bA)(l:List Int)(w:World)(e:Ending)(a:World):Prop :=
 (∃x,mA c l=some x/\∃A1 A3 m1 m3,e=.returned (.tuple #[.agg #[x.cap,.slice A1 x.list.length m1,.slice A3 x.done.length m3],true])/\xj a w x A1 A3 x.list.length x.done.length m1 m3/\Below w w a) \/
 (mA c l=none/\e=.returned (.tuple #[.agg #[oZ,oN,oN],false])/\Below w w a)
def RcC(w:World)(a:Array Value)(b:Nat)(x:Cl)(s:Value)(wc:World):Prop:=∃p A1 A3 m1 m3,s=.pointer (some ⟨p,0,none⟩)/\af wc p 119 #[x.cap,.slice A1 x.list.length m1,.slice A3 x.done.length m3]/\Hid (xj wc (b+1) x A1 A3 x.list.length x.done.length m1 m3)/\w.heap.size+1<p/\Hid (Below w w wc)/\Hid (af wc w 24 a)/\Hid (af wc (w.heap.size+1) 119 #[oZ,oN,oN])
section
variable{w w4 w6:World} {gr p:Nat} {x:Mo.Cl} {A1 A3:Option Addr} {k1 k3:Nat} {cf:Array Value} {cc:Int}
theorem RcC.last(s:x.cap=cc)(h:sA w gr w4 w6)(o:aJ w6 (gr+1) 3 .i64 (.slice A1 x.list.length k1) x.list)(r:aH w6 (gr+1) 48 4 ej (.slice A3 x.done.length k3) x.done)(t:af w4 w 24 cf)(a:af w4 (w.heap.size+1) 119 #[oZ,oN,oN])(z:w.heap.size+1<gr) :
 RcC w cf gr x (.pointer w6.heap.size) (w6.alloc (mi cc A1 x.list.length k1 A3 x.done.length k3)):=by
 subst s
 have:=h.le;have:=a.lt
 exact⟨_,A1,A3,k1,k3,rfl,af.new _ _ _,(xj.mk o r).more (ak (aj w6) _),aa,ai h.ext (ak (aj w6) _),(h.blk t aa).alloc _,(h.blk a aa).alloc _⟩
theorem RcC.mid(z:x.cap=cc)(h:sA w gr w4 w6)(o:aJ w6 (gr+1) 3 .i64 (.slice A1 x.list.length k1) x.list)(r:aH w6 (gr+1) 48 4 ej (.slice A3 x.done.length k3) x.done)(C:af w4 w 24 cf)(s:af w4 (w.heap.size+1) 119 #[oZ,oN,oN])(E:w.heap.size+1<gr)(hF:af w6 p 119 #[oZ,oN,oN])(F:w4.heap.size<=p) :
 RcC w cf gr x (.pointer p) (aw w6 p 0 [cc,.slice A1 x.list.length k1,.slice A3 x.done.length k3]):=by
 subst z
 have:=h.le;have:=s.lt
 exact⟨_,A1,A3,k1,k3,rfl,aQ hF rfl,⟨cm (fun b a e=>by subst e;exact aY o hF ag a.symm) _ _ _ _ o,cm (fun b a e=>by subst e;exact aY r hF ag a.symm) _ _ _ _ r⟩,aa,ax aa _ _ _ h.ext,ba (h.blk C aa) aa _ _,ba (h.blk s aa) aa _ _⟩
end
section
variable(w:World)
theorem MG(Q:aU c=true)(hk:c.kind≠3)(hn:n=c.start.length)(hr:bJ w .i64 A c.start)(l:List Int)(D:Option Addr)(r dd:Nat)(j5:r=l.length)(lK:(l.length:Int)=bn c)(lv:r<=dd)(hu:fE l)(hD:bJ w .u64 D l) :
 Calls prog 255 #[.agg #[c.kind,c.threads,c.chans,c.cap,c.nodes,c.aL,c.aF,c.tags,c.bG,c.bt,.slice A n k],.slice D r dd] w (aaD c l w):=by
 have hp:=Mo.aK Q
 have U4:(c.threads.toNat:Int)=c.threads:=Int.toNat_of_nonneg (by omega)
 have N:(c.cap.toNat:Int)=c.cap:=Int.toNat_of_nonneg (by omega)
 have cd:l.length=1+(c.cap.toNat+c.threads.toNat):=by have h1:=lK;unfold bn eX at h1;rw[ah (by rw[Q];decide),ah (by rw[Q];decide),ah hk]at h1;omega
 have Ie:=ae cd
 have b1:=hp.2.2.2.2.2.2.1
 have b3:1<=c.threads:=hp.1.1
 have b4:c.threads<=64:=hp.1.2
 have df:r<=2000:=by omega
 obtain⟨HDL,C6,HU,HC,HN,Co⟩:=cT j5 lK hu Q hn hr;obtain⟨lX,pH,NP,cv,vZ,jI⟩:=cT hD N U4 hk (fun a (j:Below w w a)=>gJ a Q hn (hr.below j) (k:=k)) (fun a (j:Below w w a)=>yB a Q hn (hr.below j) (k:=k))
 have dk:(c.kind==3)=false:=by rw[di];exact hk
 have dz:((r:Int) !=bn c)=false:=by rw[j5,lK];simp
 clear hp cd lK hu Q hn hr hD hk N U4 j5
 have bM:Hid (Below w w ((w.alloc (dV c A n k)).alloc FU)):=ak (ak (aj w) _) _
 have pL:Hid (af ((w.alloc (dV c A n k)).alloc FU) w 24 #[c.kind,c.threads,c.chans,c.cap,c.nodes,c.aL,c.aF,c.tags,c.bG,c.bt,.slice A n k]):=(af.new _ _ _).alloc _
 have qM:Hid (af ((w.alloc (dV c A n k)).alloc FU) (w.heap.size+1) 119 #[oZ,oN,oN]):=(af.newAt _ _ _ (by simp))
 go_enter func255,ntmps255
 go_wp2_with fail
 (with_reducible go_fit (vZ.Y _ bM.Y))
 rintro e w1 ⟨rfl,u⟩
 obtain⟨br,fY,iT⟩:=aZ (ai bM.Y u) (pL.Y.ai u) (qM.Y.ai u)
 clear u
 obtain⟨d,-,U⟩:=af.aM fY.Y
 go_wp2_with fail
 (with_reducible go_fit (jI.Y _ br.Y))
 rintro e w2 ⟨rfl,y⟩
 obtain⟨bE,ko,jh⟩:=aZ (ai br.Y y) (fY.Y.ai y) (iT.Y.ai y)
 clear y d U
 obtain⟨d,-,U⟩:=af.aM ko.Y
 go_wp2_with fail
 have HA:Hid (jF (w2.alloc (.cells #[.slice D r dd] 280)) (fun b=>b<w.heap.size) w2 l):=by exact acM
 obtain⟨cM,ub,fZ⟩:=aZ (ak bE.Y (.cells #[.slice D r dd] 280)) (ko.Y.alloc (.cells #[.slice D r dd] 280)) (jh.Y.alloc (.cells #[.slice D r dd] 280))
 have R:w.heap.size+1<w2.heap.size:=jh.Y.lt
 obtain⟨m,hg⟩:∃m,m=w2.heap.size:=⟨_,rfl⟩
 rw[<-hg]at HA R ⊢
 clear hg d U
 generalize(w2.alloc (.cells #[.slice D r dd] 280))=w3 at *
 have bY:=mP w3 HA.Y (fun b G=>by omega) (by have:=HDL.Y;omega)
 (with_reducible go_fit bY)
 rintro e f ⟨rfl,W⟩
 obtain⟨Y,C⟩:∃Y,Y=l.getD 0 0:=⟨_,rfl⟩
 have FE:=HU.Y.at_ 0
 have cn:ay l 0=Y:=C.symm
 rw[cn]at FE
 unfold uj at FE
 obtain⟨H,Xo⟩:∃H,H=min Y 17:=⟨_,rfl⟩
 have YX:(if(17:Int)<Y then(17:Int)else Y)=H:=by rw[Xo];split<;>omega
 have t0:0<=H:=by omega
 have t1:H<=17:=by omega
 have bz:=ae C
 rw[<-C]
 have xB:=ae W.1
 have jU:m<f.heap.size:=W.1.lt
 have Z:Hid (af f w 24 #[c.kind,c.threads,c.chans,c.cap,c.nodes,c.aL,c.aF,c.tags,c.bG,c.bt,.slice A n k]):=(W.2.1 _ ub.Y.lt (by omega)).trans ub.Y
 have lC:Hid (af f (w.heap.size+1) 119 #[oZ,oN,oN]):=(W.2.1 _ fZ.Y.lt (by omega)).trans fZ.Y
 have gC:Hid (Below w w f):=cM.Y.trans (W.2.2.mono (by omega))
 have a7:=ae Xo
 clear C cn Xo bY W bM pL qM br fY iT bE ko jh cM ub fZ HA dz dk vZ jI
 obtain⟨d,-,U⟩:=af.aM Z.Y
 go_wp2_with fail
 clear d U YX FE
 obtain⟨x,j⟩:∃x:Cl,x=⟨c.cap,qw (l.drop 1) H c.cap.toNat,tS ((l.drop 1).drop c.cap.toNat) c.threads.toNat⟩:=⟨_,rfl⟩
 have T:∀z∈l.drop 1,0<=z/\z<18446744073709551616:=fun z hz=>HU.Y z (List.mem_of_mem_drop hz)
 have cz:(l.drop 1).length=c.cap.toNat+c.threads.toNat:=by rw[ie,Ie.Y];omega
 have GY:=ae (fun a (j:Below f f a)=>JQ a (xB.Y.ext (fun b G=>by omega) j) (fun b G=>by omega) (fun b G=>by have:=j.size;omega) (by omega) H c.cap.toNat c.cap pH.Y.symm (by omega) T)
 have bo:Hid (∀a,jF a (fun b=>b<w.heap.size) m ((l.drop 1).drop c.cap.toNat)->Calls prog 261 #[.pointer (some ⟨m,0,none⟩),c.threads] a fun e w'=>∃v,e=.returned v/\aH w' a 48 4 ej v x.done/\eM a (fun b=>b<w.heap.size) m (((l.drop 1).drop c.cap.toNat).drop c.threads.toNat) w'):=fun a hR=>by
  have h:=tT a hR (fun b G=>by omega) (fun b G=>by have:=hR.lt;omega) (by rw[ie];omega) c.threads.toNat (by rw[ie];omega) (fun z hz=>T z (List.mem_of_mem_drop hz))
  rw[NP.Y]at h
  rw[j]
  exact h
 have ct:x.cap=c.cap:=by rw[j]
 have VF:qw (l.drop 1) H c.cap.toNat=x.list:=by rw[j]
 rw[VF]at GY
 obtain⟨HX,L⟩:=av j ct
 clear j T cz VF ct
 have dC:=fun a (j:sA w m f a) i=>af.cell (j.blk Z.Y (by omega)) i
 go_cut[8] (fun s8 a=>RcC w #[c.kind,c.threads,c.chans,c.cap,c.nodes,c.aL,c.aF,c.tags,c.bG,c.bt,.slice A n k] m x s8 a)
 case first =>
  go_region_held3(sA w m f) (with_reducible(repeat(first|assumption|exact sA.start gC.Y (by omega)|exact sA.gR gC.Y (by omega) _|refine sA.alloc ?_ _|refine sA.set ?_ (by simp;try omega)))) (first
   |((with_reducible go_fit (GY.Y _ (by first|exact(aj f).drew|exact(ak (aj f) _).drew)));rintro e w5 ⟨v5,rfl,lH,P⟩;obtain⟨s,k1,zJ⟩:=aJ.shape lH;subst zJ;have CI:=sA.rdr (by assumption) P;have c0:=CI.le;have PE:=lH.bD (base':=m+1) (bq jU (sA.le (v:=w) (g:=m) (w:=f) (by assumption)));have FA:=P.1;have FD:=FA.lt;(try(have Ka:af w5 f 119 #[oZ,oN,oN]:=(P.2.1 _ (by simp) (by omega)).trans (af.dr (af.new f _ _));have c3:=fun i=>af.cell Ka i;have c4:=fun i=>af.free Ka i;have dc:=Ka.lt)))
   |((with_reducible go_fit (bo.Y _ (by first|exact FA|exact FA.ext (fun b G=>by have:=FA.lt;omega) (ak (aj _) _))));rintro e w6 ⟨v6,rfl,b5,X4⟩;obtain⟨t,k3,c2⟩:=aH.shape b5;subst c2;have b8:=sA.rdr (by assumption) X4;have MH:=b5.bD (base':=m+1) (bq jU (sA.le (v:=w) (g:=m) (w:=f) (by assumption)));have b7:=VI PE (by first|exact aj w5|exact ak (aj w5) _) X4;(first|(have E:af w6 f 119 #[oZ,oN,oN]:=(X4.2.1 _ Ka.lt (by omega)).trans Ka;have cC:=fun i=>af.cell E i;have cF:=fun i=>af.free E i;have cO:=E.lt)|(have E:af w6 w5 119 #[oZ,oN,oN]:=(X4.2.1 _ (by simp) (by omega)).trans (af.new w5 _ _);have cC:=fun i=>af.cell E i;have cF:=fun i=>af.free E i;have cO:=E.lt)|skip)))
  all_goals
   go_wp2;go_meet;first
    |exact RcC.last L.Y b8 b7 MH Z.Y lC.Y R
    |exact RcC.mid L.Y b8 b7 MH Z.Y lC.Y R E (by first|exact aS _|exact c0)
 case rest =>
  obtain⟨p,s,t,I,J,rfl,hP,V,dg,HE,pL,qM⟩:=hcut;have bR:Mo.cellsOf c l=x:=by unfold Mo.cellsOf;dsimp only;rw[<-bz.Y, <-a7.Y,HX.Y,yY _ _ (by rw[ie];have:=Ie.Y;omega),List.drop_drop];rfl
  have a6:=ae bR;have Ib:Hid (x.list.length<=1000/\x.done.length<=1000):=by unfold Hid;rw[HX.Y];dsimp only[qw,tS];rw[cW,fF,fF,cW,fF];omega
  have HP:=ae hP;obtain⟨N,-,aW⟩:=af.aM HP.Y;obtain⟨d,-,U⟩:=af.aM pL.Y;clear hP GY bo xB HX L bz a7 dC gC Z lC bR;go_wp2_with fail;have b6:=Ed wc HC.Y HN.Y (Co.Y.below HE.Y) x s t x.list.length x.done.length I J rfl rfl (S:=fun b=>b<wc.heap.size) (fun b G=>G) ⟨V.Y.ls.pP.2,fun ad ha hne=>by subst ha;exact(aX V.Y.ls rfl).2⟩ ⟨V.Y.dn.zX.2,fun ad ha hne=>by subst ha;exact(aX V.Y.dn rfl).2⟩ (by have:=Ib.Y;omega) (by have:=Ib.Y;omega) (k:=k) (n:=n);(with_reducible go_fit (b6.mono fun _ _ h=>h.J.bD));rintro e w7 ⟨⟨B7,d7,rfl,(Ah:Hid _)⟩,vu⟩;obtain⟨LZ,K,F,a8⟩:=bN (V.Y.more vu) (ai HE.Y vu) (qM.Y.ai vu) (HP.Y.ai vu);obtain⟨M,VH⟩:∃M,M=lS c x:=⟨_,rfl⟩
  have bg:=ae VH;have Cw:Hid (M.length<=100000):=by
   unfold Hid;rw[VH];unfold lS;split
   ·rw[List.length_cons,eW,cW,lx];have:=Ib.Y;omega
   ·exact aV _
  rw[<-VH]at Ah ⊢;clear VH b6 vu N aW d U V HE qM pL HP Ib;go_wp2_with fail;have O:=Ba w7 B7 D d7 dd M l Cw.Y (by have:=HDL.Y;omega) Ah.Y (lX.Y.below K.Y);rw[<-HDL.Y]at O;(with_reducible go_fit O);rintro e w8 ⟨rfl,X2⟩;obtain⟨cw,aq,o,cy⟩:=bN (LZ.Y.more X2.ai) (ai K.Y X2.ai) (F.Y.ai X2.ai) (a8.Y.ai X2.ai);clear O X2 LZ K F a8 Ah;obtain⟨dR,dK,dN⟩:=af.aM o.Y;obtain⟨N,-,aW⟩:=af.aM cy.Y;by_cases X:M=l
  ·have Rm:decide (M=l)=true:=eE X;have Ro:Hid (mA c l=some x):=by
    unfold Hid mA;rw[a6.Y,au (by rw[HC.Y, <-bg.Y,X,C6.Y];simp[cv.Y])]
   rw[Rm];clear Rm X;go_wp2_with fail;have fh:=aQ (vs:=[x.cap,.slice s x.list.length I,.slice t x.done.length J]) o.Y rfl;have nc:=cw.Y.bO (q:=w.heap.size+1) (by omega) 0 [x.cap,.slice s x.list.length I,.slice t x.done.length J];have gv:=ax (B:=w.heap.size) (g:=w.heap.size+1) (by omega) [x.cap,.slice s x.list.length I,.slice t x.done.length J] _ 0 aq.Y;change bodyPost _ _ _ _ _ (aw w8 (w.heap.size+1) 0 [x.cap,.slice s x.list.length I,.slice t x.done.length J]);clear dR dK dN N aW;generalize aw w8 (w.heap.size+1) 0 [x.cap,.slice s x.list.length I,.slice t x.done.length J]=wz at *;have fH:=fun i=>af.cell fh i;refine bodyPost_ret (v:=.tuple #[.agg #[x.cap,.slice s x.list.length I,.slice t x.done.length J],true]) ?_ rfl (.inl ⟨_,Ro.Y,s,t,I,J,rfl,nc.bD (by omega),gv⟩);simp[results,results255,go_sem,fH]
  ·have Rm:decide (M=l)=false:=bU X;have Ro:Hid (mA c l=none):=by
    unfold Hid mA;rw[a6.Y,ah (by rw[<-bg.Y];simp[X])]
   rw[Rm];clear Rm X;go_wp2_with fail;have fh:=aQ (vs:=[oZ,oN,oN]) o.Y rfl;have gv:=ax (B:=w.heap.size) (g:=w.heap.size+1) (by omega) [oZ,oN,oN] _ 0 aq.Y;change bodyPost _ _ _ _ _ (aw w8 (w.heap.size+1) 0 [oZ,oN,oN]);clear dR dK dN N aW;generalize aw w8 (w.heap.size+1) 0 [oZ,oN,oN]=wz at *;have fH:=fun i=>af.cell fh i;refine bodyPost_ret (v:=.tuple #[.agg #[oZ,oN,oN],false]) ?_ rfl (.inr ⟨Ro.Y,rfl,gv⟩);simp[results,results255,go_sem,fH]
end
theorem Bk{c:Nat}(h:aH w base e m f (.slice A n c) xs)(a:xs≠[]):∃g,A=some ⟨g,0,none⟩/\base<=g/\g<w.heap.size:=by
 have q:=h.cap.1;rcases h.2 with⟨j,o⟩|⟨i,b,d,l,k,p,_⟩
 ·injection j with _ h3 _
  exact absurd (List.length_eq_zero_iff.1 aa) a
 ·injection l with e1 _ _
  exact⟨i,e1,k,(aX h (by rw[e1];rfl)).2⟩
def ClE(x:Cl)(base:Nat)(w:World)(e:Ending)(a:World):Prop:=∃A1 A3 m1 m3,e=.returned (.agg #[x.cap,.slice A1 x.list.length m1,.slice A3 x.done.length m3])/\xj a base x A1 A3 x.list.length x.done.length m1 m3/\Below base w a
section
variable(w:World)
theorem mR{x:Cl}(y:n1=x.list.length)(C:n3=x.done.length)(E:base<=w.heap.size)(o:xj w base x A1 A3 n1 n3 m1 m3)(t:Int)(F:0<=t/\t<x.done.length)(s r v:Int) :
 Calls prog 270 #[.agg #[x.cap,.slice A1 n1 m1,.slice A3 n3 m3],t,s,r,v] w (ClE {x with done:=jg x.done t ⟨s,0,r,v⟩} base w):=by
 obtain⟨j,G⟩:∃j:Nat,t=j:=⟨t.toNat,aa⟩
 subst G
 obtain⟨a,rfl,A,D⟩:=Bk o.dn (fun h=>by rw[h]at F;simp at F;omega)
 obtain⟨f,m,p⟩:=aZ o y C
 obtain⟨n,c⟩:∃n,x.done[j]?=some n:=⟨_,cY aa⟩
 have I:=aH.cells cX o.dn c (j:=0) rfl
 have L:=aH.cells cX o.dn c (j:=1) rfl
 have M:=aH.cells cX o.dn c (j:=2) rfl
 have N:=aH.cells cX o.dn c (j:=3) rfl
 rw[Nat.add_zero]at I
 have f0:=aH.frozen o.dn (j*4)
 have f1:=aH.frozen o.dn (j*4+1)
 have f2:=aH.frozen o.dn (j*4+2)
 have f3:=aH.frozen o.dn (j*4+3)
 have t0:(0:Int)<=(j:Int):=aa
 have t1:(j:Int)<(n3:Int):=aa
 clear o y C c
 go_enter func270,ntmps270
 go_wp2_with fail
 have K:xj (aw w a (j*4) (ej ⟨s,0,r,v⟩)) base {x with done:=jg x.done j ⟨s,0,r,v⟩} A1 a n1 n3 m1 m3:=by
  refine⟨cm (fun b E e=>?_) _ _ _ _ f.ls,?_⟩
  ·subst e;exact dH f.ls f.dn ag E rfl
  ·unfold jg;dsimp only;rw[ah aa,gu];exact f.dn.setRow cX (i:=j) aa ⟨s,0,r,v⟩ qs
 have d:(jg x.done j ⟨s,0,r,v⟩).length=n3:=by unfold jg;rw[ah aa,cq];exact p.symm
 have l:(aw w a (j*4) (ej ⟨s,0,r,v⟩)).heap.size=w.heap.size:=bH _ _ _
 have J:=ax (B:=base) (g:=a) A (ej ⟨s,0,r,v⟩) _ (j*4) (Below.refl base w)
 change bodyPost _ _ _ _ _ (((aw w a (j*4) (ej ⟨s,0,r,v⟩)).alloc (mi x.cap A1 n1 m1 a n3 m3)).alloc (mi x.cap A1 n1 m1 a n3 m3))
 generalize aw w a (j*4) (ej ⟨s,0,r,v⟩)=k at *
 have u:af ((k.alloc (mi x.cap A1 n1 m1 a n3 m3)).alloc (mi x.cap A1 n1 m1 a n3 m3)) (w.heap.size+1) 119 #[x.cap,.slice A1 n1 m1,.slice a n3 m3]:=af.newAt _ _ _ (by simp[l])
 have z:Below base w ((k.alloc (mi x.cap A1 n1 m1 a n3 m3)).alloc (mi x.cap A1 n1 m1 a n3 m3)):=(J.alloc aa _).alloc (by simp;omega) _
 have H:=(K.more (ak (aj k) (mi x.cap A1 n1 m1 a n3 m3))).more (ak (aj _) (mi x.cap A1 n1 m1 a n3 m3))
 have q:=fun i=>af.cell u i
 generalize((k.alloc (mi x.cap A1 n1 m1 a n3 m3)).alloc (mi x.cap A1 n1 m1 a n3 m3))=O at *
 refine bodyPost_ret (v:=.agg #[x.cap,.slice A1 n1 m1,.slice a n3 m3]) ?_ rfl ⟨A1,_,m1,m3,by rw[d,m.Y],?_,z⟩
 ·simp[results,results270,go_sem,q]
 ·rw[d];dsimp only;rw[<-m.Y];exact H
theorem Rp(b a:Int)(r:1<=a)(s:a<=64) :
 Calls prog 147 #[b,a] w (CH ⟨b,[],List.replicate a.toNat dD⟩ w):=by
 have o:¬64<a:=aa
 have p:¬a<0:=aa
 have h:=fun n=>run_mk n 69 48 (z:=.agg #[oZ,oZ,oZ,oZ]) (sz:=4) (by_:=32) rfl uF a aa aa ag
 have f:(Value.agg #[oZ,oZ,oZ,oZ]).cells=(ej dD).toArray:=rfl
 rw[f]at h
 clear f
 generalize d:madeCells (ej dD).toArray (a.toNat*4)=c at h
 have d:=ae d
 go_enter func147,ntmps147
 go_wp2_with fail
 have m:=rp (w:=((w.alloc (mi b none 0 0 (some ⟨w.heap.size+1,0,none⟩) a.toNat a.toNat)).alloc (.cells c 48))) (e:=48) (base:=w.heap.size) cX ag dD a.toNat aa (g:=w.heap.size+1) (by rw[d.Y];exact af.newAt _ _ _ aD) aa
 have k:af ((w.alloc (mi b none 0 0 (some ⟨w.heap.size+1,0,none⟩) a.toNat a.toNat)).alloc (.cells c 48)) w 119 #[b,oN,.slice (some ⟨w.heap.size+1,0,none⟩) a.toNat a.toNat]:=(af.new _ _ _).alloc _
 have l:=ak (ak (aj w) (mi b none 0 0 (some ⟨w.heap.size+1,0,none⟩) a.toNat a.toNat)) (.cells c 48)
 have j:=fun i=>af.cell k i
 generalize((w.alloc (mi b none 0 0 (some ⟨w.heap.size+1,0,none⟩) a.toNat a.toNat)).alloc (.cells c 48))=q at *
 refine bodyPost_ret (v:=.agg #[b,oN,.slice (some ⟨w.heap.size+1,0,none⟩) a.toNat a.toNat]) ?_ rfl ⟨none,_,0,a.toNat,by rw[gp];rfl,⟨aJ.nil _ _ _ _,by rw[gp];exact m⟩,l⟩
 simp[results,results147,go_sem,j]
theorem EE{x:Cl}(h1:n1=x.list.length)(h3:n3=x.done.length)(l1:n1<=100000)(l3:n3<=100000)(I:bJ w .i64 A1 x.list)(J:dI w ej A3 x.done) :
 Calls prog 269 #[.agg #[x.cap,.slice A1 n1 m1,.slice A3 n3 m3]] w (CH x w):=by
 subst h1;subst h3
 obtain⟨M,N⟩:=av (fun o (f:Below w w o)=>iE o A1 m1 x.list rfl aa (I.below f)) (fun o (f:Below w w o)=>su o A3 m3 x.done rfl aa (J.below f))
 clear I J
 have A:Below w w (((w.alloc (mi x.cap A1 x.list.length m1 A3 x.done.length m3)).alloc FU).drew):=(ak (ak (aj w) _) _).drew
 have E:af (((w.alloc (mi x.cap A1 x.list.length m1 A3 x.done.length m3)).alloc FU).drew) w 119 #[x.cap,.slice A1 x.list.length m1,.slice A3 x.done.length m3]:=(af.new _ _ _).alloc _
 have K:af (((w.alloc (mi x.cap A1 x.list.length m1 A3 x.done.length m3)).alloc FU).drew) (w.heap.size+1) 119 #[oZ,oN,oN]:=(af.newAt _ _ _ aD)
 go_enter func269,ntmps269
 go_wp2
 go_region_law(first
  |(go_simp;go_at_call 62;go_fit (M _ A);rintro e w1 ⟨a,d1,rfl,Ju,F,j⟩;have r:=ai A j;have m:=E.ai j;have u9:=K.ai j;have S:=fun i=>af.cell m i;have y:=fun i=>af.free m i;have z:=m.lt;go_wp2_with fail)
  |(go_simp;go_at_call 267;go_fit (N _ r);rintro e n ⟨c,d3,rfl,XC,G,h⟩;have H:=ai r h;have d:=m.ai h;have l:=u9.ai h;have s:=fun i=>af.cell d i;have t:=fun i=>af.free d i;have u:=d.lt;have O:=fun i=>af.cell l i;have R:=fun i=>af.free l i;have P:=l.lt;go_wp2_with fail))
 all_goals
  have k:xj n w x a c x.list.length x.done.length d1 d3:=⟨(F.bD (base':=w.heap.size) (by simp;omega)).ai h,G.bD (base':=w.heap.size) r.size⟩
  have L:xj (aw n w 1 [.slice a x.list.length d1,.slice c x.done.length d3]) w x a c x.list.length x.done.length d1 d3:=⟨cm (fun b f e=>by subst e;exact aY k.ls d ag f.symm) _ _ _ _ k.ls,cm (fun b f e=>by subst e;exact aY k.dn d ag f.symm) _ _ _ _ k.dn⟩
  have C:af (aw n w 1 [.slice a x.list.length d1,.slice c x.done.length d3]) w 119 #[x.cap,.slice a x.list.length d1,.slice c x.done.length d3]:=(d.bj 1 _).bj 2 _;have q:=ba l (b:=w.heap.size+1) (g:=w.heap.size) aa [.slice a x.list.length d1,.slice c x.done.length d3] 1;have Q:=ax (B:=w.heap.size) (g:=w.heap.size) (aS _) [.slice a x.list.length d1,.slice c x.done.length d3] _ 1 H;change Exit.then _ _ _ _ (aw n w 1 [.slice a x.list.length d1,.slice c x.done.length d3]);clear S y z s t u O R P E K A m u9 r j h F G d l H k;generalize aw n w 1 [.slice a x.list.length d1,.slice c x.done.length d3]=D at *;obtain⟨Y,-,kW⟩:=af.aM C;obtain⟨V,T,U⟩:=af.aM q;have p:=ae L;clear L;go_wp2_with fail;have X:=aQ (vs:=[x.cap,.slice a x.list.length d1,.slice c x.done.length d3]) q rfl;have nc:xj (aw D (w.heap.size+1) 0 [x.cap,.slice a x.list.length d1,.slice c x.done.length d3]) w x a c x.list.length x.done.length d1 d3:=⟨cm (fun b f e=>by subst e;exact aY p.ls q ag f.symm) _ _ _ _ p.ls,cm (fun b f e=>by subst e;exact aY p.dn q ag f.symm) _ _ _ _ p.dn⟩
  have Z:=ax (B:=w.heap.size) (g:=w.heap.size+1) aa [x.cap,.slice a x.list.length d1,.slice c x.done.length d3] _ 0 Q;change bodyPost _ _ _ _ _ (aw D (w.heap.size+1) 0 [x.cap,.slice a x.list.length d1,.slice c x.done.length d3]);clear Y kW V T U;generalize aw D (w.heap.size+1) 0 [x.cap,.slice a x.list.length d1,.slice c x.done.length d3]=wz at *;have W:=fun i=>af.cell X i;refine bodyPost_ret (v:=.agg #[x.cap,.slice a x.list.length d1,.slice c x.done.length d3]) ?_ rfl ⟨a,c,d1,d3,rfl,nc,Z⟩;simp[results,results269,go_sem,W]
end
theorem CH.fin{z y:Cl}{a:World}{E1 E3:Option Addr}{k1 k3:Nat}(h:z=y)(r:xj a (w.heap.size+3) y E1 E3 y.list.length y.done.length k1 k3)(C:af a (w.heap.size+2) 119 #[oZ,oN,oN])(s:Below w w a) :
 af (aw a (w.heap.size+2) 0 [y.cap,.slice E1 y.list.length k1,.slice E3 y.done.length k3]) (w.heap.size+2) 119 #[y.cap,.slice E1 y.list.length k1,.slice E3 y.done.length k3]/\CH z w (.returned (.agg #[y.cap,.slice E1 y.list.length k1,.slice E3 y.done.length k3])) (aw a (w.heap.size+2) 0 [y.cap,.slice E1 y.list.length k1,.slice E3 y.done.length k3]):=by
 subst h
 exact⟨aQ C rfl,E1,E3,k1,k3,rfl,(r.bO (q:=w.heap.size+2) aa _ _).bD aa,ax aa _ _ _ s⟩
section
variable(w:World)
theorem Ij{x:Cl}(K:n1=x.list.length)(l1:n1<=1000)(l3:x.done.length<=1000)(r1:bJ w .i64 A1 x.list)(r3:dI w ej A3 x.done)(t s:Int)(ht:0<=t/\t<x.done.length)(q:Rq)(D:Option Addr)(J I:Nat) :
 Calls prog 257 #[.agg #[x.cap,.slice A1 n1 m1,.slice A3 x.done.length m3],t,s,.agg #[q.kind,q.arg,q.value,q.dflt,.slice D J I]] w (CH (ib x t s q) w):=by
 obtain⟨N,B,d⟩:=aZ (fun wx (v:Below w w wx)=>EE wx (x:=x) (A1:=A1) (A3:=A3) (m1:=m1) (m3:=m3) K rfl aa aa (r1.below v) (r3.below v)) ht K
 unfold CH at N
 rw[<-K]at N
 clear K
 clear r1 r3 ht
 have Q:Hid (Below w w (((w.alloc (mi x.cap A1 n1 m1 A3 x.done.length m3)).alloc (jx q D J I)).alloc FU)):=ak (ak (ak (aj w) _) _) _
 have xF:Hid (af (((w.alloc (mi x.cap A1 n1 m1 A3 x.done.length m3)).alloc (jx q D J I)).alloc FU) (w.heap.size+1) 42 #[q.kind,q.arg,q.value,q.dflt,.slice D J I]):=(af.newAt _ _ _ aD).alloc _
 have qM:Hid (af (((w.alloc (mi x.cap A1 n1 m1 A3 x.done.length m3)).alloc (jx q D J I)).alloc FU) (w.heap.size+2) 119 #[oZ,oN,oN]):=(af.newAt _ _ _ aD)
 go_enter func257,ntmps257
 go_wp2_with fail
 go_fit (N _ Q)
 rintro e A ⟨j,l,d1,d3,rfl,hO,k⟩
 have f:Hid (xj (A.alloc (mi x.cap j n1 d1 l x.done.length d3)) (w.heap.size+3) x j l n1 x.done.length d1 d3):=(hO.bD (base':=w.heap.size+3) aD).more (ak (aj A) _)
 obtain⟨o,u,HK⟩:=aZ (ai (ai Q k) (ak (aj A) (mi x.cap j n1 d1 l x.done.length d3))) ((qM.ai k).alloc (mi x.cap j n1 d1 l x.done.length d3)) ((xF.ai k).alloc (mi x.cap j n1 d1 l x.done.length d3))
 have E:Hid (af (A.alloc (mi x.cap j n1 d1 l x.done.length d3)) A.heap.size 119 #[x.cap,.slice j n1 d1,.slice l x.done.length d3]):=af.new _ _ _
 have aW:w.heap.size+2<A.heap.size:=by have:=k.size;simp at this;omega
 clear Q xF qM N hO k
 go_upto_region 2 with fail
 generalize A.heap.size=p at E aW ⊢
 generalize(A.alloc (mi x.cap j n1 d1 l x.done.length d3))=n at *
 obtain⟨gD,-,kW⟩:=af.aM HK
 obtain⟨aB,bp,hgq2⟩:=af.aM E
 by_cases C:q.kind=8
 ·by_cases hc:x.cap<=n1
  ·have U:¬((n1:Int)<x.cap):=aa;go_wp2_with fail;go_fit (mR n (x:=x) (base:=w.heap.size+3) (A1:=j) (m1:=d1) d rfl (by first|omega|(rw[World.size_setCell];omega)) f t B s 10 0);rintro e w5 ⟨E1,E3,k1,k3,rfl,lH,rZ⟩;have kC:af w5 (w.heap.size+2) 119 #[oZ,oN,oN]:=(rZ.block _ aa).trans u;have hF:=CH.fin (z:=ib x t s q) (by unfold ib;rw[au C,au (by rw[<-d.Y];exact hc)]) lH kC (o.trans (rZ.mono aa));exact acO
  ·have U:(n1:Int)<x.cap:=aa;go_wp2_with(at_builtin;refine cH _ rfl _ _ 22 rfl (w.heap.size+3) 3 .i64 underlying22 fS _ x.list (by rfl) (aJ.alloc f.ls _) n.heap.size 1 1 [q.value] rfl rfl (bJ.one _ .i64 _ _) ?c4 ?c6 ?_)
   case c4=>have:=d.Y;show(x.list.length+1)*8<=_;omega
   case c6=>first|omega|(simp;omega)
   intro v4 w4 R F V;clear V;obtain⟨g,h,H⟩:=R.shape;rw[eW,gL, <-d.Y]at H;subst H;have M:=aJ.alloc f.ls (.cells #[q.value] 3);have m:=(E.alloc (.cells #[q.value] 3)).grown F (aY M (E.alloc (.cells #[q.value] 3)) ag);have vh:=(u.alloc (.cells #[q.value] 3)).grown F (aY M (u.alloc (.cells #[q.value] 3)) ag);have X:=cJ f.dn (fun b v=>(F.block b (by have:=(aX f.dn v).2;simp;omega) (fun he=>dH f.dn f.ls ag v he)).trans ((ak (aj n) (.cells #[q.value] 3)).block b (aX f.dn v).2));have a:=aJ.bh M (ak o (.cells #[q.value] 3)) F (by have:=o.size;simp;omega) aa;obtain⟨Qa,m8,gC⟩:=aZ m (vh.bO (p:=⟨p,1,none⟩) (by show w.heap.size+2≠p;omega) (.slice g (n1+1) h)) (a.setCell (p:=⟨p,1,none⟩) (by show w.heap.size<=p;omega) (.slice g (n1+1) h));have lF:Hid (xj (w4.setCell ⟨p,1,none⟩ (.slice g (n1+1) h)) (w.heap.size+3) {x with list:=x.list++[q.value]} g l (n1+1) x.done.length h d3):=⟨bK R m ag 1 _,bK X m ag 1 _⟩
   obtain⟨hcp4,hfp4,hgp4⟩:=af.aM Qa;clear R F M m vh X a gD kW aB hgq2 bp;go_wp2_with fail;go_fit (mR (w4.setCell ⟨p,1,none⟩ (.slice g (n1+1) h)) (x:={x with list:=x.list++[q.value]}) (base:=w.heap.size+3) (A1:=g) (m1:=h) (by simp[d.Y]) rfl (by first|omega|(rw[World.size_setCell];omega)) lF t B s 0 0);rintro e w5 ⟨E1,E3,k1,k3,rfl,lH,rZ⟩;have kC:af w5 (w.heap.size+2) 119 #[oZ,oN,oN]:=(rZ.block _ aa).trans m8;have hF:=CH.fin (z:=ib x t s q) (by unfold ib;rw[au C,ah (by have:=d.Y;omega)]) lH kC (gC.trans (rZ.mono aa));obtain⟨y,hy⟩:∃y:Cl,y={{x with list:=x.list++[q.value]}with done:=jg ({x with list:=x.list++[q.value]}).done t ⟨s,0,0,0⟩}:=⟨_,rfl⟩
   exact acP
 ·by_cases G:q.kind=9
  ·rcases Nat.eq_zero_or_pos n1 with S|S
   ·subst S;go_wp2_with fail;go_fit (mR n (x:=x) (base:=w.heap.size+3) (A1:=j) (m1:=d1) d rfl (by first|omega|(rw[World.size_setCell];omega)) f t B s 10 0);rintro e w5 ⟨E1,E3,k1,k3,rfl,lH,rZ⟩;have kC:af w5 (w.heap.size+2) 119 #[oZ,oN,oN]:=(rZ.block _ aa).trans u;have hF:=CH.fin (z:=ib x t s q) (by unfold ib;rw[ah C,au G,au d.Y.symm]) lH kC (o.trans (rZ.mono aa));exact acO
   ·obtain⟨Y,z,hA,hz,Z⟩:=bJ.at_ f.ls.pP.2 (i:=0) (by rw[<-d.Y];exact S);subst hA;rw[add_zero]at Z;have HZ:Hid (x.list.getD 0 0=z):=by unfold Hid;rw[cZ,hz];rfl
    have i2:(0:Int)<(n1:Int):=aa;have i3:¬(n1:Int)=0:=aa;have i4:¬n1=0:=aa;have Jt:=fun O=>kn (P:=prog) 22 3 underlying22 fS (some Y) n1 d1 1 1 rfl aa O;obtain⟨r,L⟩:=aG (x.list.drop 1);have W:n1-1=r.length:=by rw[L,ie,d.Y]
    have iH:=ae (fun O (v:Below n n O)=>iE O (ny (some Y) d1 1 1) (d1-1) r W aa (by
     have:=(f.ls.ai v).pP.2.from (c:=d1) (by rw[<-d.Y];exact f.ls.cap.2) 1;rw[<-L]at this;rw[vr];exact this))
    obtain⟨HR,xB⟩:=av L W;clear hz L W;go_wp2_with fail;go_fit (iH _ (aj n));rintro e w3 ⟨g,h,rfl,Gj,ug,a⟩;have m:=E.ai a;have PE:=m.bj 1 (.slice g (n1-1) h);have rK:Hid (xj (w3.setCell ⟨p,1,none⟩ (.slice g (n1-1) h)) (w.heap.size+3) {x with list:=r} g l (n1-1) x.done.length h d3):=⟨bK (ug.bD (base':=w.heap.size+3) aa) m ag 1 _,bK (f.dn.ai a) m ag 1 _⟩
    obtain⟨rI,je⟩:=av ((u.ai a).bO (p:=⟨p,1,none⟩) (by show w.heap.size+2≠p;omega) (.slice g (n1-1) h)) ((ai o a).setCell (p:=⟨p,1,none⟩) (by show w.heap.size<=p;omega) (.slice g (n1-1) h));obtain⟨hcp4,hfp4,hgp4⟩:=af.aM m;clear gD kW aB hgq2 bp ug a m PE Z;go_wp2_with fail;go_fit (mR (w3.setCell ⟨p,1,none⟩ (.slice g (n1-1) h)) (x:={x with list:=r}) (base:=w.heap.size+3) (A1:=g) (m1:=h) xB rfl (by first|omega|(rw[World.size_setCell];omega)) rK t B s 0 z);rintro e w5 ⟨E1,E3,k1,k3,rfl,lH,rZ⟩;have kC:af w5 (w.heap.size+2) 119 #[oZ,oN,oN]:=(rZ.block _ aa).trans rI;have hF:=CH.fin (z:=ib x t s q) (by unfold ib;rw[ah C,au G,ah (by rw[<-d.Y];omega),HZ.Y,HR.Y]) lH kC (je.trans (rZ.mono aa));obtain⟨y,hy⟩:∃y:Cl,y={{x with list:=r}with done:=jg ({x with list:=r}).done t ⟨s,0,0,z⟩}:=⟨_,rfl⟩
    exact acP
  ·by_cases T:q.kind=5
   ·go_wp2_with fail;go_fit (mR n (x:=x) (base:=w.heap.size+3) (A1:=j) (m1:=d1) d rfl (by first|omega|(rw[World.size_setCell];omega)) f t B s 0 n1);rintro e w5 ⟨E1,E3,k1,k3,rfl,lH,rZ⟩;have kC:af w5 (w.heap.size+2) 119 #[oZ,oN,oN]:=(rZ.block _ aa).trans u;have hF:=CH.fin (z:=ib x t s q) (by unfold ib;rw[ah C,ah G,au T,d.Y]) lH kC (o.trans (rZ.mono aa));obtain⟨y,hy⟩:∃y:Cl,y={x with done:=jg (x).done t ⟨s,0,0,n1⟩}:=⟨_,rfl⟩
    exact aaE
   ·by_cases h6:q.kind=6
    ·go_wp2_with fail;go_fit (mR n (x:=x) (base:=w.heap.size+3) (A1:=j) (m1:=d1) d rfl (by first|omega|(rw[World.size_setCell];omega)) f t B s 0 x.cap);rintro e w5 ⟨E1,E3,k1,k3,rfl,lH,rZ⟩;have kC:af w5 (w.heap.size+2) 119 #[oZ,oN,oN]:=(rZ.block _ aa).trans u;have hF:=CH.fin (z:=ib x t s q) (by unfold ib;rw[ah C,ah G,ah T,au h6]) lH kC (o.trans (rZ.mono aa));obtain⟨y,hy⟩:∃y:Cl,y={x with done:=jg (x).done t ⟨s,0,0,x.cap⟩}:=⟨_,rfl⟩
     exact aaE
    ·go_wp2_with fail;go_fit (mR n (x:=x) (base:=w.heap.size+3) (A1:=j) (m1:=d1) d rfl (by first|omega|(rw[World.size_setCell];omega)) f t B s 1 0);rintro e w5 ⟨E1,E3,k1,k3,rfl,lH,rZ⟩;have kC:af w5 (w.heap.size+2) 119 #[oZ,oN,oN]:=(rZ.block _ aa).trans u;have hF:=CH.fin (z:=ib x t s q) (by unfold ib;rw[ah C,ah G,ah T,ah h6]) lH kC (o.trans (rZ.mono aa));obtain⟨y,hy⟩:∃y:Cl,y={x with done:=jg (x).done t ⟨s,0,1,0⟩}:=⟨_,rfl⟩
     exact aaE
end
def kt(r:List Int×Rs)(w:World)(e:Ending)(a:World):Prop:=∃A m,e=.returned (.tuple #[.slice A r.1.length m,.agg (ej r.2).toArray])/\aJ a w 3 .i64 (.slice A r.1.length m) r.1/\Below w w a
theorem kt.own(h:aJ w base 3 .i64 v l)(r:af w g 48 ys)(vs:List Value):aJ (aw w g 0 vs) base 3 .i64 v l:=cm (fun b a e=>by subst e;exact aY h r ag a.symm) _ _ _ _ h
theorem kt.of{s:World}{X:List Int×Rs}{c:Nat}{a b C v:Int}(E:n=l.length)(G:X=(l,⟨a,b,C,v⟩))(H:aJ s w 3 .i64 (.slice A n c) l)(F:Below w w s):kt X w (.returned (.tuple #[.slice A n c,.agg #[a,b,C,v]])) s:=by subst G E;exact⟨A,c,rfl,H,F⟩
section
variable(w:World)
theorem MJ(l:List Int)(A:Option Addr)(hn:n=l.length)(hl:n<=1000)(b6:n<=m)(L:bJ w .i64 A l)(o:Int)(q:Rq)(D:Option Addr)(t s:Nat) :
 Calls prog 268 #[.slice A n m,o,.agg #[q.kind,q.arg,q.value,q.dflt,.slice D t s]] w (kt (jR l o q) w):=by
 obtain⟨V,h,HR⟩:=aZ (fun wx (hb:Below w w wx)=>iE wx A m l hn aa (L.below hb)) hn L
 clear L hn
 have d:Hid (Below w w ((w.alloc (jx q D t s)).alloc jo)):=ak (ak (aj w) _) _
 have xF:Hid (af ((w.alloc (jx q D t s)).alloc jo) w 42 #[q.kind,q.arg,q.value,q.dflt,.slice D t s]):=(af.new _ _ _).alloc _
 have G:Hid (af ((w.alloc (jx q D t s)).alloc jo) (w.heap.size+1) 48 #[oZ,oZ,oZ,oZ]):=(af.newAt _ _ _ aD)
 go_enter func268,ntmps268
 go_upto_region 2 with fail
 by_cases hput:q.kind=8/\(n:Int)<o
 ·obtain⟨h8,hc⟩:=hput;have k:Hid (jR l o q=(l++[q.value],⟨0,0,0,0⟩)):=by unfold Hid jR;rw[au ⟨h8,by rw[<-h.Y];exact hc⟩];rfl
  unfold jx at d xF G;rw[h8]at d xF G;have nv:Below w w ((w.alloc (.cells #[.int .i64 8,q.arg,q.value,q.dflt,.slice D t s] 42)).alloc jo).drew:=d.drew;have sV:Below w w (((w.alloc (.cells #[.int .i64 8,q.arg,q.value,q.dflt,.slice D t s] 42)).alloc jo).alloc (.cells #[q.value] 3)).drew:=(ak d (.cells #[q.value] 3)).drew;have iR:af ((w.alloc (.cells #[.int .i64 8,q.arg,q.value,q.dflt,.slice D t s] 42)).alloc jo).drew (w.heap.size+1) 48 #[oZ,oZ,oZ,oZ]:=G.Y;have T:af (((w.alloc (.cells #[.int .i64 8,q.arg,q.value,q.dflt,.slice D t s] 42)).alloc jo).alloc (.cells #[q.value] 3)).drew (w.heap.size+1) 48 #[oZ,oZ,oZ,oZ]:=G.alloc _;have KN:af ((w.alloc (.cells #[.int .i64 8,q.arg,q.value,q.dflt,.slice D t s] 42)).alloc jo).drew w 42 #[.int .i64 8,q.arg,q.value,q.dflt,.slice D t s]:=xF.Y;have bg:af (((w.alloc (.cells #[.int .i64 8,q.arg,q.value,q.dflt,.slice D t s] 42)).alloc jo).alloc (.cells #[q.value] 3)).drew w 42 #[.int .i64 8,q.arg,q.value,q.dflt,.slice D t s]:=xF.alloc _;have bo:bJ (((w.alloc (.cells #[.int .i64 8,q.arg,q.value,q.dflt,.slice D t s] 42)).alloc jo).alloc (.cells #[q.value] 3)).drew .i64 (some ⟨w.heap.size+1+1,0,none⟩) [q.value]:=bJ.WO ((w.alloc (.cells #[.int .i64 8,q.arg,q.value,q.dflt,.slice D t s] 42)).alloc jo) .i64 q.value _ aD;have De:Hid (n+1=(l++[q.value]).length):=by unfold Hid;simp[h.Y]
  go_wp2;go_region_law(first
   |(go_simp;go_at_call 62;go_fit (V _ (by first|exact nv|exact sV));rintro e c ⟨x,y,rfl,U,u,a⟩;(first|(have b:=iR.ai a;have tW:=KN.ai a;have qp:=ai nv a)|(have b:=T.ai a;have tW:=bg.ai a;have qp:=ai sV a;have bz:=bo.below a));have b7:=qp.size;have Z:=u.bD (base':=w.heap.size) (by first|exact nv.size|exact sV.size);have GS:=fun i=>af.cell tW i;have GU:=tW.lt;have M:=fun i=>af.cell b i;have N:=fun i=>af.free b i;have O:=b.lt;go_wp2_with fail)
   |((first|(refine kH rfl _ _ 22 rfl w 3 .i64 underlying22 fS _ l rfl ?_ c 1 1 [q.value] rfl rfl ?_ ?_ ?_ ?_)|(refine kH rfl _ _ 22 rfl w 3 .i64 underlying22 fS _ l rfl ?_ (some ⟨w.heap.size+1+1,0,none⟩) 1 1 [q.value] rfl rfl ?_ ?_ ?_ ?_));(first|exact aJ.alloc Z _|exact Z);(first|exact bJ.one _ .i64 _ _|exact bz);(have:=h.Y;show(l.length+1)*8<=_;omega);(first|omega|(simp;omega));intro v5 w5 fJ yZ bR;clear bR;obtain⟨A5,c5,Af⟩:=fJ.shape;rw[eW,gL, <-h.Y]at Af;subst Af;(first|(have W:=(b.alloc (.cells #[q.value] 3)).grown yZ (aY (aJ.alloc Z (.cells #[q.value] 3)) (b.alloc (.cells #[q.value] 3)) ag);have ei:=aJ.bh (aJ.alloc Z (.cells #[q.value] 3)) (ak qp (.cells #[q.value] 3)) yZ (by simp;omega) (aS _))|(have W:=b.grown yZ (aY Z b ag);have ei:=aJ.bh Z qp yZ aa (aS _)));have aq:=fun i=>af.cell W i;have a6:=fun i=>af.free W i;have a7:=W.lt;go_wp2_with fail))
  all_goals
   obtain⟨rK,zG,je⟩:=aZ fJ W ei;clear fJ yZ W ei GS GU M N O;go_wp2_with fail;have C:=aQ (vs:=[oZ,oZ,oZ,oZ]) zG rfl;have F:=kt.own rK zG [oZ,oZ,oZ,oZ];have E:=ax (B:=w.heap.size) (g:=w.heap.size+1) aa [oZ,oZ,oZ,oZ] _ 0 je;change bodyPost _ _ _ _ _ (aw w5 (w.heap.size+1) 0 [oZ,oZ,oZ,oZ]);clear aq a6 a7;generalize aw w5 (w.heap.size+1) 0 [oZ,oZ,oZ,oZ]=Y at *;have fH:=fun i=>af.cell C i;refine bodyPost_ret (v:=.tuple #[.slice A5 (n+1) c5,.agg #[oZ,oZ,oZ,oZ]]) ?_ rfl (kt.of De k F E);exact mk6
 generalize((w.alloc (jx q D t s)).alloc jo)=X at *
 obtain⟨gD,-,kW⟩:=af.aM xF
 obtain⟨kM,uo,a8⟩:=af.aM G
 by_cases h8:q.kind=8
 ·by_cases hc:(n:Int)<o
  ·exact absurd ⟨h8,hc⟩ hput
  ·have k:Hid (jR l o q=(l,⟨0,0,10,0⟩)):=by unfold Hid jR;rw[ah (by rw[<-h.Y];omega),ah aa,au aa];rfl
   have b5:o<=(n:Int):=aa;go_wp2_with fail;go_fit (V _ d);rintro e c ⟨x,y,rfl,U,u,a⟩;have f:=(G.ai a)
   obtain⟨J,H,I⟩:=af.aM f;go_wp2_with fail;have C:=aQ (vs:=[oZ,oZ,.int .i64 10,oZ]) f rfl;have F:=kt.own (u.bD (base':=w.heap.size) d.size) f [oZ,oZ,.int .i64 10,oZ];have E:=ax (B:=w.heap.size) (g:=w.heap.size+1) aa [oZ,oZ,.int .i64 10,oZ] _ 0 (ai d a);change bodyPost _ _ _ _ _ (aw c (w.heap.size+1) 0 [oZ,oZ,.int .i64 10,oZ]);clear J H I;generalize aw c (w.heap.size+1) 0 [oZ,oZ,.int .i64 10,oZ]=Y at *;have fH:=fun i=>af.cell C i;refine bodyPost_ret (v:=.tuple #[.slice x n y,.agg #[oZ,oZ,.int .i64 10,oZ]]) ?_ rfl (kt.of h k F E);exact mk6
 ·by_cases h9:q.kind=9
  ·rcases Nat.eq_zero_or_pos n with h0|h0
   ·have k:Hid (jR l o q=(l,⟨0,0,10,0⟩)):=by unfold Hid jR;rw[ah aa,ah (by rw[<-h.Y];omega),au aa];rfl
    subst h0;go_wp2_with fail;go_fit (V _ d);rintro e c ⟨x,y,rfl,U,u,a⟩;have f:=(G.ai a)
    obtain⟨J,H,I⟩:=af.aM f;go_wp2_with fail;have C:=aQ (vs:=[oZ,oZ,.int .i64 10,oZ]) f rfl;have F:=kt.own (u.bD (base':=w.heap.size) d.size) f [oZ,oZ,.int .i64 10,oZ];have E:=ax (B:=w.heap.size) (g:=w.heap.size+1) aa [oZ,oZ,.int .i64 10,oZ] _ 0 (ai d a);change bodyPost _ _ _ _ _ (aw c (w.heap.size+1) 0 [oZ,oZ,.int .i64 10,oZ]);clear J H I;generalize aw c (w.heap.size+1) 0 [oZ,oZ,.int .i64 10,oZ]=Y at *;have fH:=fun i=>af.cell C i;refine bodyPost_ret (v:=.tuple #[.slice x 0 y,.agg #[oZ,oZ,.int .i64 10,oZ]]) ?_ rfl (kt.of h k F E);exact mk6
   ·obtain⟨j,rfl⟩:∃j,n=j+1:=⟨n-1,aa⟩
    obtain⟨R,z,hA,hz,cz⟩:=bJ.at_ HR (i:=j) (by rw[<-h.Y];omega);subst hA;have QD:X.cell? (R.add j)=some (.int .i64 z):=(d.cell (p:=R.add j) (bb cz)).trans cz;obtain⟨r,L⟩:=aG (l.take j);have jU:j=r.length:=by rw[L,fF, <-h.Y];omega
    have k:Hid (jR l o q=(r,⟨0,0,0,z⟩)):=by unfold Hid jR;rw[ah aa,au (by rw[<-h.Y];omega),L,List.dropLast_eq_take,List.getLastD_eq_getLast?,List.getLast?_eq_getElem?, <-h.Y,Nat.add_sub_cancel,hz];rfl
    have iH:=ae (fun w' (hb:Below w w w')=>iE w' (some R) m r jU aa (by
     have:=(HR.below hb).take j;rw[<-L]at this;exact this))
    have Jt:=fun w'=>Dl (P:=prog) 22 3 underlying22 fS (some R) (j+1) m j j rfl aa w';have xB:=ae jU;have K:Below w w X.drew:=d.drew;have S:Below w w (aw X.drew (w.heap.size+1) 0 [oZ,oZ,oZ,z]):=ax aa _ _ _ K;have T:af (aw X.drew (w.heap.size+1) 0 [oZ,oZ,oZ,z]) (w.heap.size+1) 48 #[oZ,oZ,oZ,z]:=aQ G rfl;have iR:af X.drew (w.heap.size+1) 48 #[oZ,oZ,oZ,oZ]:=G.Y;have Q:X.drew.cell? (R.add j)=some (.int .i64 z):=QD;have j1:(0:Int)<=(j:Int):=aa;have j2:(j:Int)<=1000:=aa;have b8:IntKind.i64.wrap (j:Int)=j:=by unfold IntKind.wrap;simp[IntKind.bits,IntKind.signed];omega
    have j3:(j:Int)<(j:Int)+1:=aa;clear hz L jU cz;go_wp2;go_region_law(first
     |(go_simp;go_at_call 62;go_fit (iH _ (by first|exact K|exact S));rintro e c ⟨x,y,rfl,U,u,a⟩;(try have bY:c.cell? (R.add j)=some (.int .i64 z):=(a.cell (p:=R.add j) (bb Q)).trans Q);(first|(have b:af c (w.heap.size+1) 48 #[oZ,oZ,oZ,oZ]:=iR.ai a;have M:=fun i=>af.cell b i;have N:=fun i=>af.free b i;have O:=b.lt)|(have b:=T.ai a));go_wp2_with fail))
    all_goals
     clear QD Q kM uo a8 gD kW;go_wp2_with fail;first
      |(have C:af (aw c (w.heap.size+1) 0 [oZ,oZ,oZ,z]) (w.heap.size+1) 48 #[oZ,oZ,oZ,z]:=aQ b rfl
        have F:=kt.own (u.bD (base':=w.heap.size) K.size) b [oZ,oZ,oZ,z]
        have E:=ax (B:=w.heap.size) (g:=w.heap.size+1) aa [oZ,oZ,oZ,z] _ 0 (ai K a)
        change bodyPost _ _ _ _ _ (aw c (w.heap.size+1) 0 [oZ,oZ,oZ,z])
        clear M N O
        generalize aw c (w.heap.size+1) 0 [oZ,oZ,oZ,z]=Y at *
        have fH:=fun i=>af.cell C i
        refine bodyPost_ret (v:=.tuple #[.slice x j y,.agg #[oZ,oZ,oZ,z]]) ?_ rfl (kt.of xB k F E)
        simp[results,results268,go_sem,fH])
      |(have fH:=fun i=>af.cell b i
        refine bodyPost_ret (v:=.tuple #[.slice x j y,.agg #[oZ,oZ,oZ,z]]) ?_ rfl (kt.of xB k (u.bD (base':=w.heap.size) S.size) (ai S a))
        simp[results,results268,go_sem,fH])
  ·by_cases h5:q.kind=5
   ·have k:Hid (jR l o q=(l,⟨0,0,0,n⟩)):=by unfold Hid jR;rw[ah aa,ah aa,ah aa,au h5,h.Y]
    go_wp2_with fail;go_fit (V _ d);rintro e c ⟨x,y,rfl,U,u,a⟩;have f:=(G.ai a)
    obtain⟨J,H,I⟩:=af.aM f;go_wp2_with fail;have C:=aQ (vs:=[oZ,oZ,oZ,n]) f rfl;have F:=kt.own (u.bD (base':=w.heap.size) d.size) f [oZ,oZ,oZ,n];have E:=ax (B:=w.heap.size) (g:=w.heap.size+1) aa [oZ,oZ,oZ,n] _ 0 (ai d a);change bodyPost _ _ _ _ _ (aw c (w.heap.size+1) 0 [oZ,oZ,oZ,n]);clear J H I;generalize aw c (w.heap.size+1) 0 [oZ,oZ,oZ,n]=Y at *;have fH:=fun i=>af.cell C i;refine bodyPost_ret (v:=.tuple #[.slice x n y,.agg #[oZ,oZ,oZ,n]]) ?_ rfl (kt.of h k F E);exact mk6
   ·by_cases h6:q.kind=6
    ·have k:Hid (jR l o q=(l,⟨0,0,0,o⟩)):=by unfold Hid jR;rw[ah aa,ah aa,ah aa,ah h5,au h6]
     go_wp2_with fail;go_fit (V _ d);rintro e c ⟨x,y,rfl,U,u,a⟩;have f:=(G.ai a)
     obtain⟨J,H,I⟩:=af.aM f;go_wp2_with fail;have C:=aQ (vs:=[oZ,oZ,oZ,o]) f rfl;have F:=kt.own (u.bD (base':=w.heap.size) d.size) f [oZ,oZ,oZ,o];have E:=ax (B:=w.heap.size) (g:=w.heap.size+1) aa [oZ,oZ,oZ,o] _ 0 (ai d a);change bodyPost _ _ _ _ _ (aw c (w.heap.size+1) 0 [oZ,oZ,oZ,o]);clear J H I;generalize aw c (w.heap.size+1) 0 [oZ,oZ,oZ,o]=Y at *;have fH:=fun i=>af.cell C i;refine bodyPost_ret (v:=.tuple #[.slice x n y,.agg #[oZ,oZ,oZ,o]]) ?_ rfl (kt.of h k F E);exact mk6
    ·have k:Hid (jR l o q=(l,⟨0,0,1,0⟩)):=by unfold Hid jR;rw[ah aa,ah aa,ah aa,ah h5,ah h6];rfl
     go_wp2_with fail;go_fit (V _ d);rintro e c ⟨x,y,rfl,U,u,a⟩;have f:=(G.ai a)
     obtain⟨J,H,I⟩:=af.aM f;go_wp2_with fail;have C:=aQ (vs:=[oZ,oZ,.int .i64 1,oZ]) f rfl;have F:=kt.own (u.bD (base':=w.heap.size) d.size) f [oZ,oZ,.int .i64 1,oZ];have E:=ax (B:=w.heap.size) (g:=w.heap.size+1) aa [oZ,oZ,.int .i64 1,oZ] _ 0 (ai d a);change bodyPost _ _ _ _ _ (aw c (w.heap.size+1) 0 [oZ,oZ,.int .i64 1,oZ]);clear J H I;generalize aw c (w.heap.size+1) 0 [oZ,oZ,.int .i64 1,oZ]=Y at *;have fH:=fun i=>af.cell C i;refine bodyPost_ret (v:=.tuple #[.slice x n y,.agg #[oZ,oZ,.int .i64 1,oZ]]) ?_ rfl (kt.of h k F E);exact mk6
end
def Ik(w:World)(x:Cl)(r o:Array Value)(a:Nat)(s:Value)(wc:World):Prop:=∃p B3 d3,s=.pointer (some ⟨p,0,none⟩)/\af wc p 119 #[x.cap,oN,.slice B3 a d3]/\w.heap.size+2<p/\Hid (aH wc (w.heap.size+3) 48 4 ej (.slice B3 a d3) x.done)/\Hid (Below w w wc)/\Hid (af wc w 119 r)/\Hid (af wc (w.heap.size+1) 42 o)/\Hid (af wc (w.heap.size+2) 119 #[oZ,oN,oN])
section
variable{w w0 w1:World} {x:Mo.Cl} {xv qv:Array Value} {n3 d3 p:Nat} {B3:Option Addr}
theorem Ik.last(C:w0.heap.size=w.heap.size+3)(r:Below w w w0)(a:Ext w0 w1)(o:aH w1 (w.heap.size+3) 48 4 ej (.slice B3 n3 d3) x.done)(s:af w0 w 119 xv)(t:af w0 (w.heap.size+1) 42 qv)(z:af w0 (w.heap.size+2) 119 #[oZ,oN,oN]) :
 Ik w x xv qv n3 (.pointer w1.heap.size) (w1.alloc (mi x.cap none 0 0 B3 n3 d3)) :=
 ⟨_,B3,d3,rfl,af.new _ _ _,by have:=a.Y.size;omega,o.alloc _,ai (ai r a.Y) (ak (aj w1) _),(s.ai a.Y).alloc _,(t.ai a.Y).alloc _,(z.ai a.Y).alloc _⟩
theorem Ik.mid(F:w0.heap.size=w.heap.size+3)(r:Below w w w0)(o:Ext w0 w1)(s:aH w1 (w.heap.size+3) 48 4 ej (.slice B3 n3 d3) x.done)(z:af w0 w 119 xv)(C:af w0 (w.heap.size+1) 42 qv)(E:af w0 (w.heap.size+2) 119 #[oZ,oN,oN])(hF:af w1 p 119 #[oZ,oN,oN])(G:w0.heap.size<=p) :
 Ik w x xv qv n3 (.pointer p) (aw w1 p 0 [x.cap,oN,.slice B3 n3 d3]) :=
 ⟨_,B3,d3,rfl,aQ hF rfl,aa,cm (fun b r e=>by subst e;exact aY s hF ag r.symm) _ _ _ _ s,ax aa _ _ _ (ai r o.Y),ba (z.ai o.Y) aa _ _,ba (C.ai o.Y) aa _ _,ba (E.ai o.Y) aa _ _⟩
end
theorem CH.ext{z:Cl}{e:Ending}(h:CH z w e w1)(o:Obj):CH z w e (w1.alloc o):=by obtain⟨a,b,g,i,d,f,c⟩:=h;exact⟨a,b,g,i,d,f.more (ak (aj w1) o),ai c (ak (aj w1) o)⟩
section
variable(w:World)
theorem Il{x:Cl}(h1:n1=x.list.length)(h3:n3=x.done.length)(l1:n1<=1000)(l3:n3<=1000)(bR:n1<=m1)(r1:bJ w .i64 A1 x.list)(r3:dI w ej A3 x.done)(t s:Int)(ht:0<=t/\t<n3)(q:Rq)(D:Option Addr)(E C:Nat) :
 Calls prog 256 #[.agg #[x.cap,.slice A1 n1 m1,.slice A3 n3 m3],t,s,.agg #[q.kind,q.arg,q.value,q.dflt,.slice D E C]] w (CH (nk x t s q) w):=by
 obtain⟨sY,L,V⟩:=aZ (fun k (P:Below w w k)=>su k A3 m3 x.done h3 (by omega) (r3.below P)) (fun k (P:Below w w k)=>MJ k x.list A1 (m:=m1) h1 l1 bR (r1.below P) x.cap q D E C) h3
 obtain⟨j,hj⟩:∃j:Nat,t=j:=⟨t.toNat,by omega⟩
 subst hj
 clear r1 r3 h1 h3
 have O:Hid (Below w w (((w.alloc (mi x.cap A1 n1 m1 A3 n3 m3)).alloc (jx q D E C)).alloc FU)):=ak (ak (ak (aj w) _) _) _
 have U:Hid (af (((w.alloc (mi x.cap A1 n1 m1 A3 n3 m3)).alloc (jx q D E C)).alloc FU) w 119 #[x.cap,.slice A1 n1 m1,.slice A3 n3 m3]):=((af.new _ _ _).alloc _).alloc _
 have Z:Hid (af (((w.alloc (mi x.cap A1 n1 m1 A3 n3 m3)).alloc (jx q D E C)).alloc FU) (w.heap.size+1) 42 #[q.kind,q.arg,q.value,q.dflt,.slice D E C]):=(af.newAt _ _ _ (by simp)).alloc _
 have Y:Hid (af (((w.alloc (mi x.cap A1 n1 m1 A3 n3 m3)).alloc (jx q D E C)).alloc FU) (w.heap.size+2) 119 #[oZ,oN,oN]):=(af.newAt _ _ _ (by simp))
 have na:(((w.alloc (mi x.cap A1 n1 m1 A3 n3 m3)).alloc (jx q D E C)).alloc FU).heap.size=w.heap.size+3:=by simp
 obtain⟨I,S⟩:∃I,I=(((w.alloc (mi x.cap A1 n1 m1 A3 n3 m3)).alloc (jx q D E C)).alloc FU):=⟨_,rfl⟩
 go_enter func256,ntmps256
 go_wp2_with fail
 rw[<-S]at O U Z Y na ⊢
 clear S
 have zD:=ae na
 clear na
 have Ib:=ae (fun k (hx:Ext I k)=>sY.Y k (ai O.Y hx.Y))
 have J:=fun k (hx:Ext I k) i=>af.cell (U.Y.ai hx.Y) i
 go_cut[9] (fun s9 k=>Ik w x #[x.cap,.slice A1 n1 m1,.slice A3 n3 m3] #[q.kind,q.arg,q.value,q.dflt,.slice D E C] n3 s9 k)
 case first =>
  go_region_held3(Ext I) (with_reducible(repeat(first|assumption|exact Ext.start _|exact Ext.gR _ _|refine Ext.alloc ?_ _|refine Ext.set ?_ (by simp;try omega)))) (first
   |((with_reducible go_fit (Ib.Y _ (by assumption)));rintro e w1 ⟨B3,d3,rfl,XC,hO,Q⟩;have kX:=Ext.to (by assumption) Q;have cv:=kX.Y.size;have vd:=hO.bD (base':=w.heap.size+3) (by have:=zD.Y;first|(show w.heap.size+3<=I.heap.size;omega)|(simp;omega));(try(have A:af w1 I 119 #[oZ,oN,oN]:=(af.dr (af.new I _ _)).ai Q;have bY:=fun i=>af.cell A i;have b5:=fun i=>af.free A i;have b6:=A.lt))))
  all_goals
   go_wp2;go_meet;first
    |exact Ik.last zD.Y O.Y kX vd U.Y Z.Y Y.Y
    |exact Ik.mid zD.Y O.Y kX vd U.Y Z.Y Y.Y A (aS _)
 case rest =>
  obtain⟨p,B3,d3,rfl,hP,hp,HO,HB,F,G,H⟩:=hcut;have HP:=ae hP;clear hP U Z Y O Ib J sY zD;obtain⟨J,-,jM⟩:=af.aM F.Y;obtain⟨dR,-,dN⟩:=af.aM G.Y;go_wp2_with fail;(with_reducible go_fit (L.Y _ HB.Y));rintro e w5 ⟨o,u,rfl,T,K⟩;obtain⟨⟨X,⟨a0,a,c,d⟩⟩,hr⟩:∃z,z=jR x.list x.cap q:=⟨_,rfl⟩
  rw[<-hr]at T ⊢;have HR:=ae hr;obtain⟨n,VJ⟩:∃n,n=X.length:=⟨_,rfl⟩
  dsimp only[ej]at T ⊢;rw[<-VJ]at T ⊢;have VK:=ae VJ;obtain⟨f,rfl,cd,cn⟩:=Bk HO.Y (fun h=>by have:=V.Y;rw[h]at this;simp at this;omega);obtain⟨W,r,rK,je,zG⟩:=dh (HP.Y.ai K) (HO.Y.ai K) (T.bD (base':=w.heap.size+3) (by have:=HP.Y.lt;omega)) (ai HB.Y K) (H.Y.ai K);obtain⟨x3,l⟩:∃x3,x.done[j]?=some x3:=⟨_,cY (by have:=V.Y;omega)⟩
  have q0:=aH.cells cX r.Y l (j:=0) rfl;have q1:=aH.cells cX r.Y l (j:=1) rfl;have q2:=aH.cells cX r.Y l (j:=2) rfl;have q3:=aH.cells cX r.Y l (j:=3) rfl;rw[Nat.add_zero]at q0;have f0:=aH.frozen r.Y (j*4);have f1:=aH.frozen r.Y (j*4+1);have f2:=aH.frozen r.Y (j*4+2);have f3:=aH.frozen r.Y (j*4+3);have t0:(0:Int)<=(j:Int):=by omega
  have t1:(j:Int)<(n3:Int):=by omega
  have aW:f≠p:=fun e=>by subst e;exact aY r.Y W.Y (by decide) rfl
  have ct:p≠f:=fun e=>aW e.symm;have b8:f<w5.heap.size:=by have:=K.size;omega
  have b7:w.heap.size+2<f:=by omega
  obtain⟨aB,bp,R⟩:=af.aM W.Y;obtain⟨gD,bz,kW⟩:=af.aM zG.Y;clear hr VJ T K l J jM dR dN L HP HO HB H F G;go_wp2_with fail;have uq:w.heap.size+2≠p:=by omega
  have M:=bK rK.Y W.Y (by decide) 1 (.slice o n u);have N:=bK r.Y W.Y (by decide) 1 (.slice o n u);have a8:=zG.Y.bO (p:=⟨p,1,none⟩) uq (.slice o n u);have aq:=je.Y.setCell (p:=⟨p,1,none⟩) (by show w.heap.size<=p;omega) (.slice o n u);generalize w5.setCell ⟨p,1,none⟩ (.slice o n u)=w6 at *;have Ac:j<x.done.length:=by have:=V.Y;omega
  have bo:xj (aw w6 f (j*4) (ej ⟨s,a,c,d⟩)) (w.heap.size+3) ⟨x.cap,X,jg x.done j ⟨s,a,c,d⟩⟩ o f n n3 u d3:=by
   refine⟨cm (fun b P e=>?_) _ _ _ _ M,?_⟩
   ·subst e;exact dH M N (by decide) P rfl
   ·unfold jg;dsimp only;rw[ah (by omega),gu];exact aH.setRow cX N (i:=j) Ac ⟨s,a,c,d⟩ qs
  have bg:=ba a8 (b:=w.heap.size+2) (g:=f) (by omega) (ej ⟨s,a,c,d⟩) (j*4);have a6:=ax (B:=w.heap.size) (g:=f) (by omega) (ej ⟨s,a,c,d⟩) _ (j*4) aq;have FF:(jg x.done j ⟨s,a,c,d⟩).length=n3:=by unfold jg;rw[ah (by omega),cq];exact V.Y.symm
  have hz:nk x j s q=⟨x.cap,X,jg x.done j ⟨s,a,c,d⟩⟩:=by unfold nk;rw[<-HR.Y]
  have hF:=CH.fin (y:=⟨x.cap,X,jg x.done j ⟨s,a,c,d⟩⟩) (k1:=u) (k3:=d3) (E1:=o) (E3:=some ⟨f,0,none⟩) hz (by dsimp only;rw[FF, <-VK.Y];exact bo) bg a6;dsimp only at hF;rw[FF, <-VK.Y]at hF;change bodyPost _ _ _ _ _ ((aw (aw w6 f (j*4) (ej ⟨s,a,c,d⟩)) (w.heap.size+2) 0 [x.cap,.slice o n u,.slice f n3 d3]).alloc (qX s a c d));have fh:=hF.1.alloc (qX s a c d);have a7:=CH.ext hF.2 (qX s a c d);clear hF aB bp R gD bz kW q0 q1 q2 q3 f0 f1 f2 f3;generalize((aw (aw w6 f (j*4) (ej ⟨s,a,c,d⟩)) (w.heap.size+2) 0 [x.cap,.slice o n u,.slice f n3 d3]).alloc (qX s a c d))=wz at *;have fH:=fun i=>af.cell fh i;refine bodyPost_ret (v:=.agg #[x.cap,.slice o n u,.slice f n3 d3]) ?_ rfl a7;simp[results,results256,go_sem,fH]
end
section
variable(w:World)
theorem EF(p:aU c=true)(r:n=c.start.length)(s:bJ w .i64 A c.start)(o:xi w base h A1 A2 A3 h.chans.length h.waits.length h.done.length m1 m2 m3)(y:h.chans.length<=100000)(z:h.waits.length<=100000)(C:h.done.length<=100000)(E:∀x∈h.chans,x.buf.length<=100000)(F:∀x∈h.waits,x.cases.length<=100000) :
 Calls prog 144 #[.agg #[c.kind,c.threads,c.chans,c.cap,c.nodes,c.aL,c.aF,c.tags,c.bG,c.bt,.slice A n k],.agg #[h.az,.slice A1 h.chans.length m1,.slice A2 h.waits.length m2,.slice A3 h.done.length m3]] w (uG (lg c h) w) :=
 Ea w p r s h A1 A2 A3 _ _ _ m1 m2 m3 rfl rfl rfl (S:=fun b=>b<w.heap.size) (fun b a=>a) (kF.mono cP (fun b a=>a.lt) o.ch.Ma) (kF.mono aR (fun b a=>a.lt) o.wt.Ma) ⟨o.dn.zX.2,fun f d e=>by subst d;exact(aX o.dn rfl).2⟩ y z C E F
theorem y8(o:aU c=true)(p:n=c.start.length)(r:bJ w .i64 A c.start){x:Cl}(a:xj w base x A1 A3 x.list.length x.done.length m1 m3)(s:x.list.length<=100000)(t:x.done.length<=100000) :
 Calls prog 146 #[.agg #[c.kind,c.threads,c.chans,c.cap,c.nodes,c.aL,c.aF,c.tags,c.bG,c.bt,.slice A n k],.agg #[x.cap,.slice A1 x.list.length m1,.slice A3 x.done.length m3]] w (uG (lS c x) w) :=
 Ed w o p r x A1 A3 _ _ m1 m3 rfl rfl (S:=fun b=>b<w.heap.size) (fun b g=>g) ⟨a.ls.pP.2,fun f d e=>by subst d;exact(aX a.ls rfl).2⟩ ⟨a.dn.zX.2,fun f d e=>by subst d;exact(aX a.dn rfl).2⟩ s t
end
section
variable(w:World)
theorem Io(r:aU c=true)(y:n=c.start.length)(z:bJ w .i64 A c.start) :
 Calls prog 105 #[.agg #[c.kind,c.threads,c.chans,c.cap,c.nodes,c.aL,c.aF,c.tags,c.bG,c.bt,.slice A n k]] w (uG (lI c) w):=by
 have s:=Mo.aK r
 have T:0<=c.chans:=s.2.2.2.2.2.2.2.1
 have U:c.chans<=8:=s.2.2.2.2.2.2.2.2
 have K:1<=c.threads:=s.1.1
 have L:c.threads<=64:=s.1.2
 obtain⟨P,v,j,t,D,E⟩:=cT (fun b (a:Below w w b)=>gJ b r y (z.below a) (k:=k)) (fun b (f:c.kind=3) (a:Below w w b)=>Ic b r f y (z.below a) (k:=k)) (fun b=>Rp b c.cap c.threads K L) r y z
 clear s r y z
 have C:Hid (Below w w (w.alloc (dV c A n k))):=ak (aj w) _
 have H:Hid (af (w.alloc (dV c A n k)) w 24 #[c.kind,c.threads,c.chans,c.cap,c.nodes,c.aL,c.aF,c.tags,c.bG,c.bt,.slice A n k]):=(af.new _ _ _)
 go_enter func105,ntmps105
 go_wp2_with fail
 (with_reducible go_fit (P.Y _ C.Y))
 rintro e u ⟨rfl,l⟩
 obtain⟨br,G⟩:=av (ai C l) (H.ai l)
 clear l C H
 have M:=fun b (a:Ext u b) i=>af.cell (G.ai a.Y) i
 obtain⟨g,-,V⟩:=af.aM G
 by_cases f:c.kind=3
 ·have F:=ae (fun b (a:Ext u b)=>v b f (ai br a.Y));have HE:Hid (lI c=lg c (ik c)):=by unfold Hid lI;rw[ah (by rw[t.Y];decide),au f]
  have d:Hid ((ik c).chans.length<=100000/\(ik c).waits.length<=100000/\(ik c).done.length<=100000/\(∀x∈(ik c).chans,x.buf.length<=100000)/\∀x∈(ik c).waits,x.cases.length<=100000):=by
   unfold Hid ik;refine⟨by simp;omega,by simp;omega,by simp;omega,fun x a=>?_,fun x a=>?_⟩
   ·rcases List.mem_map.1 a with⟨i,_,rfl⟩
    split<;>exact aV _
   ·rw[List.eq_of_mem_replicate a];exact aV _
  generalize ik c=h at F d HE;clear v j;have p:(c.kind==3)=true:=by rw[f];rfl
  go_wp2_with fail;clear p f g;go_region_held3(Ext u) (with_reducible(repeat(first|assumption|exact Ext.start _|exact Ext.gR _ _|refine Ext.alloc ?_ _))) (first
   |((with_reducible go_fit (F.Y _ (by assumption)));rintro e Q ⟨I,S,J,N,W,O,rfl,q,m⟩;have xg:=Ext.to (by assumption) m;have B:=ae q;clear q)
   |((with_reducible go_fit (EF _ t.Y D.Y (E.Y.below (ai br.Y xg.Y)) B.Y d.Y.1 d.Y.2.1 d.Y.2.2.1 d.Y.2.2.2.1 d.Y.2.2.2.2));rintro e R ⟨B3,d3,rfl,JU,o⟩;have yA:=Ext.to (by assumption) o))
  exact X5
 ·have HE:Hid (lI c=lS c ⟨c.cap,[],List.replicate c.threads.toNat dD⟩):=by unfold Hid lI;rw[ah (by rw[t.Y];decide),ah f]
  have d:Hid ((⟨c.cap,[],List.replicate c.threads.toNat dD⟩:Cl).list.length<=100000/\(⟨c.cap,[],List.replicate c.threads.toNat dD⟩:Cl).done.length<=100000):=by unfold Hid;refine⟨aV _,by simp;omega⟩
  obtain⟨x,a⟩:∃x:Cl,x=⟨c.cap,[],List.replicate c.threads.toNat dD⟩:=⟨_,rfl⟩
  rw[<-a]at j d HE;clear a v;have p:(c.kind==3)=false:=by rw[di];exact f
  go_wp2_with fail;clear p f g;go_region_held3(Ext u) (with_reducible(repeat(first|assumption|exact Ext.start _|exact Ext.gR _ _|refine Ext.alloc ?_ _))) (first
   |((with_reducible go_fit (j.Y _));rintro e Q ⟨I,J,N,O,rfl,q,m⟩;have xg:=Ext.to (by assumption) m;have B:=ae q;clear q)
   |((with_reducible go_fit (y8 _ t.Y D.Y (E.Y.below (ai br.Y xg.Y)) B.Y d.Y.1 d.Y.2));rintro e R ⟨B3,d3,rfl,JU,o⟩;have yA:=Ext.to (by assumption) o))
  exact X5
end
theorem Mo.Ip{x:Mo.Cl}(h:Mo.mA c l=some x):x=Mo.cellsOf c l/\Mo.lS c x=l:=by
 unfold Mo.mA at h;split at h
 ·rename_i a;simp only[cA,bP]at a;injection h with h
  subst h;exact⟨rfl,a.2⟩
 ·cases h
theorem Mo.EG(a:Mo.aU c=true)(l:List Int):(Mo.cellsOf c l).list.length<=16/\(Mo.cellsOf c l).done.length=c.threads.toNat:=by have b:=Mo.aK a;unfold Mo.cellsOf;dsimp only;refine⟨?_,kP _ _ _ _⟩;rw[cW,fF,fF];have:=b.2.2.2.2.2.2.1;omega
def nC(c:bA)(x:Cl)(t s:Int)(q:Rq):List Int:=lS c (if c.kind=2 then nk x t s q else ib x t s q)
def VM(c:bA)(l:List Int)(t s:Int)(q:Rq)(w:World)(e:Ending)(a:World):Prop :=
 (∃x,mA c l=some x/\(∃B d,e=.returned (.tuple #[.slice B (nC c x t s q).length d,true])/\aJ a w 44 .u64 (.slice B (nC c x t s q).length d) (nC c x t s q))/\Below w w a) \/
 (mA c l=none/\e=.returned (.tuple #[oN,false])/\Below w w a)
theorem EH(d:List Rs)(t:Int)(r:Rs):(jg d t r).length=d.length:=by unfold jg;split<;>simp
theorem MK{x:Cl}(t s:Int)(q:Rq)(a:x.list.length<=1000)(b:x.done.length<=1000):(ib x t s q).list.length<=100000/\(ib x t s q).done.length<=100000:=by
 unfold ib;repeat' split
 all_goals simp[EH];omega
theorem ML{x:Cl}(t s:Int)(q:Rq)(a:x.list.length<=1000)(b:x.done.length<=1000):(nk x t s q).list.length<=100000/\(nk x t s q).done.length<=100000:=by
 unfold nk jR;repeat' split
 all_goals simp[EH];omega
section
variable(w:World)
theorem Iq(N:aU c=true)(hk:c.kind≠3)(hn:n=c.start.length)(hr:bJ w .i64 A c.start)(l:List Int)(D:Option Addr)(T Y:Nat)(j5:T=l.length)(lK:(l.length:Int)=bn c)(lv:T<=Y)(hu:fE l)(hD:bJ w .u64 D l)(t s:Int)(ht:0<=t/\t<c.threads)(q:Rq)(r:Option Addr)(C z:Nat) :
 Calls prog 249 #[.agg #[c.kind,c.threads,c.chans,c.cap,c.nodes,c.aL,c.aF,c.tags,c.bG,c.bt,.slice A n k],.slice D T Y,t,s,.agg #[q.kind,q.arg,q.value,q.dflt,.slice r C z]] w (VM c l t s q w):=by
 have b3:1<=c.threads:=(Mo.aK N).1.1
 have b4:c.threads<=64:=(Mo.aK N).1.2
 obtain⟨J,W,HN,HR⟩:=bN (fun d (a:Below w w d)=>MG d N hk hn (hr.below a) (k:=k) l D T Y j5 lK lv hu (hD.below a)) N hn hr
 clear j5 lK lv hu hD N hn hr
 have R:Hid (Below w w ((w.alloc (dV c A n k)).alloc (jx q r C z))):=ak (ak (aj w) _) _
 have pL:Hid (af ((w.alloc (dV c A n k)).alloc (jx q r C z)) w.heap.size 24 #[c.kind,c.threads,c.chans,c.cap,c.nodes,c.aL,c.aF,c.tags,c.bG,c.bt,.slice A n k]):=(af.new _ _ _).alloc _
 have xF:Hid (af ((w.alloc (dV c A n k)).alloc (jx q r C z)) (w.heap.size+1) 42 #[q.kind,q.arg,q.value,q.dflt,.slice r C z]):=(af.newAt _ _ _ aD)
 go_enter func249,ntmps249
 go_wp2_with fail
 (with_reducible go_fit (J.Y _ R.Y))
 rintro e G (⟨x,a,m,o,m1,m3,rfl,hO,b⟩|⟨a,rfl,b⟩)
 ·obtain⟨O,_⟩:=Ip a;have xu:=EG W l;rw[<-O]at xu;obtain⟨f,Q,E,ko,iC,M⟩:=cT xu a (ai (ai R b) (ak (aj G) (mi x.cap m x.list.length m1 o x.done.length m3))) ((pL.ai b).alloc (mi x.cap m x.list.length m1 o x.done.length m3)) ((xF.ai b).alloc (mi x.cap m x.list.length m1 o x.done.length m3)) (hO.more (ak (aj G) (mi x.cap m x.list.length m1 o x.done.length m3)));have S:Hid (af (G.alloc (mi x.cap m x.list.length m1 o x.done.length m3)) G.heap.size 119 #[x.cap,.slice m x.list.length m1,.slice o x.done.length m3]):=af.new _ _ _;clear a O xu hO b R pL xF J;go_upto_region 4 with fail
  generalize G.heap.size=p at S ⊢;generalize(G.alloc (mi x.cap m x.list.length m1 o x.done.length m3))=B at *;have aq:=fun d (a:Ext B d) i=>af.cell (ko.ai a.Y) i;have dR:=fun d (a:Ext B d) i=>af.cell (iC.ai a.Y) i;have aB:=fun d (a:Ext B d) i=>af.cell (S.ai a.Y) i;obtain⟨g,-,jM⟩:=af.aM ko;obtain⟨j,-,dN⟩:=af.aM iC;obtain⟨h,-,aW⟩:=af.aM S;by_cases F:c.kind=2
  ·have X:=ae (fun d (a:Ext B d)=>Il d (n1:=x.list.length) (n3:=x.done.length) (m1:=m1) (m3:=m3) rfl rfl (by have:=f.Y;omega) (by have:=f.Y;omega) (M.ls.cap.2) ((M.ls.ai a.Y).pP.2) ((M.dn.ai a.Y).zX.2) t s (by have:=f.Y;omega) q r C z);have I:Hid (nC c x t s q=lS c (nk x t s q)):=by unfold Hid nC;rw[au F]
   have K:Hid ((nk x t s q).list.length<=100000/\(nk x t s q).done.length<=100000):=ML t s q (by have:=f.Y;omega) (by have:=f.Y;omega);have y:(c.kind==2)=true:=by rw[F];rfl
   go_wp2_with fail;clear y F g h j;go_region_held3(Ext B) (with_reducible(repeat(first|assumption|exact Ext.start _|exact Ext.gR _ _|refine Ext.alloc ?_ _))) (first
    |((with_reducible go_fit (X.Y _ (by assumption)));rintro e w4 ⟨C1,C3,k1,k3,rfl,P,u⟩;have L:=Ext.to (by assumption) u;have lF:=ae P;clear P)
    |((with_reducible go_fit (y8 _ W.Y HN.Y (HR.Y.below (ai E.Y L.Y)) lF.Y K.Y.1 K.Y.2));rintro e w5 ⟨H,d5,rfl,V,Z⟩;have U:=Ext.to (by assumption) Z))
   all_goals
    go_wp2;refine bodyPost_ret (v:=.tuple #[.slice H (lS c (nk x t s q)).length d5,true]) ?_ rfl (.inl ⟨x,Q,⟨H,d5,by rw[I.Y],by rw[I.Y];exact V.bD (bq E.size L.Y.size)⟩,ai E U.Y⟩);exact aaJ
  ·have X:=ae (fun d (a:Ext B d)=>Ij d (n1:=x.list.length) (m1:=m1) (m3:=m3) rfl (by have:=f.Y;omega) (by have:=f.Y;omega) ((M.ls.ai a.Y).pP.2) ((M.dn.ai a.Y).zX.2) t s (by have:=f.Y;omega) q r C z);have I:Hid (nC c x t s q=lS c (ib x t s q)):=by unfold Hid nC;rw[ah F]
   have K:Hid ((ib x t s q).list.length<=100000/\(ib x t s q).done.length<=100000):=MK t s q (by have:=f.Y;omega) (by have:=f.Y;omega);have y:(c.kind==2)=false:=by rw[di];exact F
   go_wp2_with fail;clear y F g h j;go_region_held3(Ext B) (with_reducible(repeat(first|assumption|exact Ext.start _|exact Ext.gR _ _|refine Ext.alloc ?_ _))) (first
    |((with_reducible go_fit (X.Y _ (by assumption)));rintro e w4 ⟨C1,C3,k1,k3,rfl,P,u⟩;have L:=Ext.to (by assumption) u;have lF:=ae P;clear P)
    |((with_reducible go_fit (y8 _ W.Y HN.Y (HR.Y.below (ai E.Y L.Y)) lF.Y K.Y.1 K.Y.2));rintro e w5 ⟨H,d5,rfl,V,Z⟩;have U:=Ext.to (by assumption) Z))
   all_goals
    go_wp2;refine bodyPost_ret (v:=.tuple #[.slice H (lS c (ib x t s q)).length d5,true]) ?_ rfl (.inl ⟨x,Q,⟨H,d5,by rw[I.Y],by rw[I.Y];exact V.bD (bq E.size L.Y.size)⟩,ai E U.Y⟩);exact aaJ
 ·obtain⟨br,Q⟩:=av (ai R b) a;clear a b;go_wp2;refine bodyPost_ret (v:=.tuple #[oN,false]) ?_ rfl (.inr ⟨Q,rfl,(br).alloc br.size _⟩);exact aaJ
end
end Go.Proofs.YtjcjjiieblineaaGreat
