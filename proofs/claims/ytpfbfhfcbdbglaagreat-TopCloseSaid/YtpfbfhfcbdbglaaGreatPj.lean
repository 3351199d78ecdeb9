/- Walks and plain facts. No condition. -/
import Derived.Test.YtpfbfhfcbdbglaaGreatSc
import Derived.Test.YtpfbfhfcbdbglaaGreatPc
import Derived.Test.YtpfbfhfcbdbglaaGreatPh
namespace Go.Proofs.YtpfbfhfcbdbglaaGreat
open Go.RowKit Go.Proofs.Tryz Mo
set_option maxHeartbeats 8000000
set_option maxRecDepth 100000
set_option linter.all false
variable {h:Mo.Hl}{n base k m1 m2 m3 g n1 n2 n3 q d j i m gh N g1 gr m4 dd d1 d2 d3 base':Nat}{c:Mo.dG}{A A2 A3 A1 B A4 D B1 B2 B3:Option Addr}{w w' a w2 wr b w4 w1 W:World}{t sq tk hd seq:Int}{T e:TypeId}{tl:List Value}{v1 v3 v2 v v4 u row:Value}{α:Type}{xs:List Mo.Ch}{ys:List Mo.Wt}{zs:List Mo.Rs}{cs:List Mo.Cs}{o:Obj}{l1 l2:List Int}{z:Mo.Cs}{x:Mo.Wt}{p:Addr}{ops:Array Oper}{S:Nat->Prop}{rows:List (Row 5)}{P:ux α}
theorem lg(f:bP h hd=some i):∃x,h.chans[i]?=some x/\x.used=true/\(cJ hd).2.2=true/\x.gen=(cJ hd).2.1/\i=(cJ hd).1.toNat:=by
 unfold bP at f;split at f
 .cases f
 .rename_i b;split at f
  .cases f
  .rename_i x c;split at f
   .rename_i a;injection f with f
    subst f;exact⟨x,c,a.1,by simpa using b,a.2,rfl⟩
   .cases f
theorem Qo(w:World)(H:C4 w base g c A n k t sq h A1 A2 A3 m1 m2 m3)(C:GN h)(l:Int) :
 Calls prog 259 #[.pointer g,l] w (Ua base g c A n k t sq A1 A3 m1 m3 (mR h l) w):=by
 have G:Hid (Below w w (w.alloc ke)):=aj (ai w) _
 have gC:Hid (ag (w.alloc ke) w 64 #[oZ,oZ,oZ,oZ]):=ag.new _ _ _
 obtain⟨rH,qj⟩:=av (H.more G) H.nY
 have K:base<=w.heap.size:=bm H.low (Nat.le_of_lt H.blk.lt)
 obtain⟨f,-,p⟩:=ag.aF rH.blk
 unfold qb at f
 have B8:g<w.heap.size:=H.blk.lt
 obtain⟨lR,mf⟩:=av C (λM (u9:Below w w M)=>oM M h.ak A1 m1 h.chans rfl ((H.more u9).xv) (.slice A2 h.waits.length m2) (.slice A3 h.done.length m3) h.waits h.done l)
 obtain⟨r,hr⟩:=aw (bP h l)
 have e0:bP ⟨h.ak,h.chans,h.waits,h.done⟩ l=r:=hr.symm
 rw[e0]at mf
 obtain⟨rB,uf⟩:=av hr H.PQ
 clear hr e0
 cases r with
 |none =>
  have HG:Hid (mR h l=(h,bg 8)):=by unfold Hid mR;rw[<-rB.Y]
  clear H C;go_enter func259,ntmps259;go_wp2_with fail;go_fit (mf _ G);rintro e u ⟨rfl,a⟩;obtain⟨Z,uF,D,F⟩:=bh ((G.mono K).trans (a.mono (by simp;omega))) (ah G a) (rH.more a) (gC.ah a);clear a f p;obtain⟨Y,cj,-⟩:=ag.aF F;have cu:=ag.lt F;have f:=λi=>ag.cell (dx.blk D) i;have p:=ag.lt (dx.blk D);unfold qb at f;go_wp2_with fail;have W:=aY (vs:=[oZ,oZ,.int .i64 8,oZ]) F rfl;have Aj:=dx.b9 D qj (aR _) F af af 0 [oZ,oZ,.int .i64 8,oZ];have kN:Below base w (ax u w 0 [oZ,oZ,.int .i64 8,oZ]):=az K _ _ _ Z;change bodyPost _ _ _ _ _ (ax u w 0 [oZ,oZ,.int .i64 8,oZ]);have Ak:=uf.Y _ ((gu.ext uF).new (q:=w.heap.size) aa 0 [oZ,oZ,.int .i64 8,oZ]);clear Y cj cu f p;generalize ax u w 0 [oZ,oZ,.int .i64 8,oZ]=wz at *;have fy:=λi=>ag.cell W i;refine bodyPost_ret (v:=.agg #[oZ,oZ,.int .i64 8,oZ]) ?_ rfl ?_
  .exact Y5
  .exact Ma
 |some i =>
  obtain⟨x,L,hu,V⟩:=lg rB.symm;clear V;have BS:x.buf.length<=90000:=C.buf x (bo L);have X:=ae (λM (u9:Below w w M) (B:Option Addr) (d:Nat) (kB:bD M .i64 B x.buf)=>PL M x B x.buf.length d rfl BS kB A2 m2 h.waits rfl C.waits ((H.more u9).GP) (λy hy=>C.cases y hy) l hu);have U:fO h i=x:=by unfold fO;rw[ew,L];rfl
  have HG:Hid (mR h l=if ot x l h.waits=false then(h,bg 13)else({h with chans:=h.chans.set i ⟨x.gen,0,false,false,[]⟩},cE)):=by unfold Hid mR;rw[<-rB.Y];dsimp only;rw[U]
  have HX:=ae L;have uv:i<h.chans.length:=bT L;clear H C U;go_enter func259,ntmps259;go_wp2_with fail;go_fit (mf _ G);rintro e u ⟨rfl,a⟩;obtain⟨Z,D,F⟩:=aS (ah G a) (rH.more a) (gC.ah a);obtain⟨ad,B,d,T,Eh,(jC:Hid _),c0,Q,I,R,J⟩:=lV.row D.xv L;subst T;rw[hu]at I X;generalize x.buf.length=bl at J X;have i1:(0:Int)<=(i:Int):=aa;have i2:(i:Int)<(h.chans.length:Int):=aa;clear a f p L hu Eh BS;obtain⟨f,-,p⟩:=ag.aF D.blk;unfold qb at f;go_wp2_with fail;go_still_tail 14,(by kernel_rfl)
  change wpList _ _ _ _ _ u.drew;have O:=ae (D.more (ai u).drew);have N:Hid (ag u.drew _ _ _):=F.Y;obtain⟨P,z⟩:=av Z.drew (jC.below (ai u).drew);generalize u.drew=wd at *;clear f p c0 Q I R J D F Z jC;go_wp2_with fail;go_fit (X _ P B d z);rintro e E ⟨rfl,j⟩;obtain⟨bB,uF,m,S⟩:=bh ((P.mono K).trans (j.mono (bm K P.size))) (ah P j) (O.more j) (N.ah j);clear j X O N P z;obtain⟨Y,cj,-⟩:=ag.aF S;have cu:=ag.lt S;have f:=λi=>ag.cell (dx.blk m) i;have p:=ag.lt (dx.blk m);unfold qb at f;rcases s:ot x l h.waits with _|_
  .have wg:Hid (mR h l=(h,bg 13)):=by unfold Hid;rw[HG.Y,ay s]
   clear s;go_wp2_with fail;have W:=aY (vs:=[oZ,oZ,.int .i64 13,oZ]) S rfl;have Aj:=dx.b9 m qj (aR _) S af af 0 [oZ,oZ,.int .i64 13,oZ];have kN:Below base w (ax E w 0 [oZ,oZ,.int .i64 13,oZ]):=az K _ _ _ bB;change bodyPost _ _ _ _ _ (ax E w 0 [oZ,oZ,.int .i64 13,oZ]);have Ak:=uf.Y _ ((gu.ext uF).new (q:=w.heap.size) aa 0 [oZ,oZ,.int .i64 13,oZ]);clear Y cj cu f p;generalize ax E w 0 [oZ,oZ,.int .i64 13,oZ]=wz at *;have fy:=λi=>ag.cell W i;refine bodyPost_ret (v:=.agg #[oZ,oZ,.int .i64 13,oZ]) ?_ rfl ?_
   .exact Y5
   .exact PS
  .have wg:Hid (mR h l=({h with chans:=h.chans.set i ⟨x.gen,0,false,false,[]⟩},cE)):=by unfold Hid;rw[HG.Y,au (by rw[s];decide)]
   clear s;obtain⟨o,mm,hv,aq,a6⟩:=m.chans.form (by have:=bo HX;intro he;rw[he]at this;cases this);injection hv with e1 e2 e3
   injection e1 with e1
   subst e1 e3;clear e2;obtain⟨ad,B2,d2,T,_,_,c0,Q,I,R,J⟩:=lV.row m.xv HX;injection T with T
   subst T;have f0:=m.chans.bq (i*5);have f1:=m.chans.bq (i*5+1);have f2:=m.chans.bq (i*5+2);have f3:=m.chans.bq (i*5+3);have f4:=m.chans.bq (i*5+4);rw[lU,Nat.zero_add]at c0 Q I R J;dsimp only at Q I R J;have LM:o<w.heap.size:=qj.2.1 o rfl;go_wp2;go_region;all_goals
    go_wp2_with fail;have zG:Be g w {h with chans:=h.chans.set i ⟨x.gen,0,false,false,[]⟩} o A2 A3 m1 m2 m3:=by unfold Be;dsimp only;rw[dN];exact qj.Y
    have Wy:=m.Eg (i:=i) uv ⟨x.gen,0,false,false,[]⟩ none 0 (aR _) (bD.nil _ _ _) (λb C=>by cases C);have zx:=aX S (b:=w.heap.size) (g:=o) aa [x.gen,oZ,false,false,oN] (i*5);have xi:Below base w (ax E o (i*5) [x.gen,oZ,false,false,oN]):=az aq _ _ _ bB;clear c0 Q I R J f0 f1 f2 f3 f4;have hD:=(ai (ax (ax E o (i*5) [x.gen,oZ,false,false,oN]) w 0 [oZ,oZ,oZ,oZ])).drew;have W:=(aY (vs:=[oZ,oZ,oZ,oZ]) zx rfl).ah hD;have Aj:=(dx.b9 Wy zG (aR _) zx af af 0 [oZ,oZ,oZ,oZ]).more hD;have kN:Below base w (ax (ax E o (i*5) [x.gen,oZ,false,false,oN]) w 0 [oZ,oZ,oZ,oZ]).drew:=(az K _ _ _ xi).drew;change bodyPost _ _ _ _ _ (ax (ax E o (i*5) [x.gen,oZ,false,false,oN]) w 0 [oZ,oZ,oZ,oZ]).drew;have Ak:=uf.Y _ (gu.drew (((gu.ext uF).GU (q:=o) rfl (i*5) [x.gen,oZ,false,false,oN]).new (q:=w.heap.size) aa 0 [oZ,oZ,oZ,oZ]));clear Y cj cu f p hD;generalize(ax (ax E o (i*5) [x.gen,oZ,false,false,oN]) w 0 [oZ,oZ,oZ,oZ]).drew=wz at *;have fy:=λi=>ag.cell W i;refine bodyPost_ret (v:=.agg #[oZ,oZ,oZ,oZ]) ?_ rfl ?_
    .exact Y5
    .exact PS
theorem Eo(w:World)(H:C4 w base g c A n k t sq h A1 A2 A3 m1 m2 m3)(q:Rq)(D:Option Addr)(y s:Nat) :
 Calls prog 262 #[.pointer g,.agg #[q.kind,q.arg,q.value,q.dflt,.slice D y s]] w (Ua base g c A n k t sq A1 A3 m1 m3 (h,lZ h q) w):=by
 have Q:Hid (Below w w ((w.alloc (lQ q D y s)).alloc ke)):=aj (aj (ai w) _) _
 have M:Hid (ag ((w.alloc (lQ q D y s)).alloc ke) w 38 #[q.kind,q.arg,q.value,q.dflt,.slice D y s]):=(ag.new _ _ _).alloc _
 have gC:Hid (ag ((w.alloc (lQ q D y s)).alloc ke) (w.heap.size+1) 64 #[oZ,oZ,oZ,oZ]):=(ag.newAt _ _ _ (by simp))
 obtain⟨O,qj⟩:=av (H.more Q.Y) H.nY
 have E:base<=w.heap.size:=bm H.low (Nat.le_of_lt H.blk.lt)
 have B8:g<w.heap.size:=H.blk.lt
 have Z:=ae (λwx (u9:Below w w wx)=>oM wx h.ak A1 m1 h.chans rfl ((H.more u9).xv) (.slice A2 h.waits.length m2) (.slice A3 h.done.length m3) h.waits h.done q.arg)
 obtain⟨r,Y⟩:∃r,r=bP h q.arg:=⟨_,rfl⟩
 have e0:bP ⟨h.ak,h.chans,h.waits,h.done⟩ q.arg=r:=Y.symm
 rw[e0]at Z
 obtain⟨rB,C,uf⟩:=aS Y Q.Y.drew H.PQ
 clear Y e0 H
 go_enter func262,ntmps262
 go_wp2_with fail
 generalize((w.alloc (lQ q D y s)).alloc ke)=wv at *
 obtain⟨Qp,J,-⟩:=ag.aF M.Y
 have P:=ag.lt M.Y
 have l:=λi=>ag.cell (dx.blk O.Y) i
 have F:=ag.lt (dx.blk O.Y)
 unfold qb at l
 have z:=ae (O.Y.more (ai _).drew)
 have p:Hid (ag wv.drew w 38 #[q.kind,q.arg,q.value,q.dflt,.slice D y s]):=M.Y
 have u:Hid (ag wv.drew (w.heap.size+1) 64 #[oZ,oZ,oZ,oZ]):=gC.Y
 go_region_law(first
  |(go_simp;go_at_call 267;(with_reducible go_fit (Z.Y _ C.Y));rintro e f ⟨rfl,a⟩;go_wp2_with fail))
 all_goals
  clear l F Qp J P M gC O Q;obtain⟨o,j,eZ,S,uF⟩:=bQ (z.Y.more a) (u.Y.ah a) (p.Y.ah a) ((C.Y.mono E).trans (a.mono (bm E C.Y.size))) (ah C.Y a);clear a z u p C Z;obtain⟨R,V,-⟩:=ag.aF j.Y;have W:=ag.lt j.Y;have l:=λi=>ag.cell (dx.blk o.Y) i;have F:=ag.lt (dx.blk o.Y);unfold qb at l;obtain⟨U,-,X⟩:=ag.aF eZ.Y;cases r with
  |none =>
   have HG:Hid (lZ h q=bg 8):=by unfold Hid lZ;rw[<-rB.Y]
   go_wp2_with fail;clear U X;have L:=aY (vs:=[oZ,oZ,.int .i64 8,oZ]) j.Y rfl;have Aj:=dx.b9 o.Y qj.Y (bM _) j.Y (by decide) (by decide) 0 [oZ,oZ,.int .i64 8,oZ];have kN:Below base w (ax f (w.heap.size+1) 0 [oZ,oZ,.int .i64 8,oZ]):=az (bm E (bM _)) _ _ _ S.Y;change bodyPost _ _ _ _ _ (ax f (w.heap.size+1) 0 [oZ,oZ,.int .i64 8,oZ]);have Ak:=uf.Y _ ((gu.ext uF.Y).new (q:=(w.heap.size+1)) (by omega) 0 [oZ,oZ,.int .i64 8,oZ]);clear R V W l F;generalize ax f (w.heap.size+1) 0 [oZ,oZ,.int .i64 8,oZ]=wz at *;have fy:=λi=>ag.cell L i;refine bodyPost_ret (v:=.agg #[oZ,oZ,.int .i64 8,oZ]) ?_ rfl ?_
   .exact Y6
   .exact Ma
  |some i =>
   obtain⟨x,N,hu,K⟩:=lg rB.Y.symm;clear K;have uv:i<h.chans.length:=bT N;have I:fO h i=x:=by unfold fO;rw[ew,N];rfl
   have HG:Hid (lZ h q=if q.kind=6 then⟨0,0,0,x.cap⟩else⟨0,0,0,x.buf.length⟩):=by unfold Hid lZ;rw[<-rB.Y];dsimp only;rw[I]
   obtain⟨ad,B,d,hA,Eh,kB,c0,c1,c2,c3,T⟩:=lV.row o.Y.xv N;subst hA;obtain⟨b,G⟩:∃b,b=x.buf.length:=⟨_,rfl⟩
   rw[<-G]at T HG;have i1:(i:Int)<(h.chans.length:Int):=by omega
   clear N hu I Eh kB G c0 c2 c3;by_cases m:q.kind=6
   .have wg:Hid (lZ h q=⟨0,0,0,x.cap⟩):=by unfold Hid;rw[HG.Y,ay m]
    have d1:(q.kind==6)=true:=by simpa using m
    clear m;go_wp2_with fail;clear U X c1 T;have L:=aY (vs:=[oZ,oZ,oZ,x.cap]) j.Y rfl;have Aj:=dx.b9 o.Y qj.Y (bM _) j.Y (by decide) (by decide) 0 [oZ,oZ,oZ,x.cap];have kN:Below base w (ax f (w.heap.size+1) 0 [oZ,oZ,oZ,x.cap]):=az (bm E (bM _)) _ _ _ S.Y;change bodyPost _ _ _ _ _ (ax f (w.heap.size+1) 0 [oZ,oZ,oZ,x.cap]);have Ak:=uf.Y _ ((gu.ext uF.Y).new (q:=(w.heap.size+1)) (by omega) 0 [oZ,oZ,oZ,x.cap]);clear R V W l F;generalize ax f (w.heap.size+1) 0 [oZ,oZ,oZ,x.cap]=wz at *;have fy:=λi=>ag.cell L i;refine bodyPost_ret (v:=.agg #[oZ,oZ,oZ,x.cap]) ?_ rfl ?_
    .exact Y6
    .exact PS
   .have wg:Hid (lZ h q=⟨0,0,0,b⟩):=by unfold Hid;rw[HG.Y,au m]
    have d1:(q.kind==6)=false:=by simpa using m
    clear m;go_wp2_with fail;clear U X c1 T;have L:=aY (vs:=[oZ,oZ,oZ,b]) j.Y rfl;have Aj:=dx.b9 o.Y qj.Y (bM _) j.Y (by decide) (by decide) 0 [oZ,oZ,oZ,b];have kN:Below base w (ax f (w.heap.size+1) 0 [oZ,oZ,oZ,b]):=az (bm E (bM _)) _ _ _ S.Y;change bodyPost _ _ _ _ _ (ax f (w.heap.size+1) 0 [oZ,oZ,oZ,b]);have Ak:=uf.Y _ ((gu.ext uF.Y).new (q:=(w.heap.size+1)) (by omega) 0 [oZ,oZ,oZ,b]);clear R V W l F;generalize ax f (w.heap.size+1) 0 [oZ,oZ,oZ,b]=wz at *;have fy:=λi=>ag.cell L i;refine bodyPost_ret (v:=.agg #[oZ,oZ,oZ,b]) ?_ rfl ?_
    .exact Y6
    .exact PS
theorem dx.Y7(H:dx w base g T tl h A1 A2 A3 m1 m2 m3){ty:TypeId}{r:Array Value}(f:ag w q ty r)(l:ty≠T):g≠q:=by
 rintro rfl;have:=H.blk;unfold ag at this f;rw[f]at this;injection this with this
 injection this with _ h _
 exact l h
theorem dx.yJ(H:dx w base g T tl h A1 A2 A3 m1 m2 m3){ty:TypeId}{F:Array Value}(f:ag w q ty F)(l:ty≠3)(r:ty≠101)(s:ty≠T)(y:50≠ty)(C:99≠ty)(E:∀b,(Value.slice A3 h.done.length m3).ownBlock=some b->b≠q)(o:Nat)(vs:List Value):dx (ax w q o vs) base g T tl h A1 A2 A3 m1 m2 m3:=by
 have c:∀b,eP w b->b≠q:=λb a d=>by subst d;exact eP.not f l r a
 refine⟨aX H.blk (H.Y7 f s) _ _,?_,?_,eV E _ _ _ _ H.done,H.low,H.ty⟩
 .exact(aD.move cd H.chans (λb a=>aM (c b a) _ _) (λb a=>aM (H.chans.other f y b a) _ _)).mono cd (λb a=>fB _ _ _ a)
 .exact(aD.move aI H.waits (λb a=>aM (c b a) _ _) (λb a=>aM (H.waits.other f C b a) _ _)).mono aI (λb a=>fB _ _ _ a)
theorem dx.JS(H:dx w base g T tl h A1 A2 A3 m1 m2 m3){xs:List Wt}(f:j6 w base (.slice A4 xs.length m4) xs) :
 dx (ax w g 2 [.slice A4 xs.length m4]) base g T tl {h with waits:=xs} A1 A4 A3 m1 m4 m3:=by
 have c:=H.blk
 have e:∀b,eP w b->b≠g:=λb a d=>by subst d;exact eP.not c H.ty.1 H.ty.2.1 a
 refine⟨?_,?_,?_,eV (λb a d=>by subst d;exact eh H.done c H.ty.2.2.2.2.1 a.symm) _ _ _ _ H.done,H.low,H.ty⟩
 .have:=dW [.slice A4 xs.length m4] w 2 _ c;exact this
 .exact(aD.move cd H.chans (λb a=>aM (e b a) _ _) (λb a=>aM (H.chans.other c H.ty.2.2.1 b a) _ _)).mono cd (λb a=>fB _ _ _ a)
 .exact(aD.move aI f (λb a=>aM (e b a) _ _) (λb a=>aM (aD.other f c H.ty.2.2.2.1 b a) _ _)).mono aI (λb a=>fB _ _ _ a)
theorem dx.told{l:Nat}(H:dx w base g T tl h A1 A2 l m1 m2 m3){L:List Rs}(s:L.length=h.done.length)(r:sM w w' base l h.done.length m3 L) :
 dx w' base g T tl {h with done:=L} A1 A2 l m1 m2 m3:=by
 obtain⟨p,o,hg⟩:=kz H.done
 have n:∀b,eP w b->b≠l:=λb a d=>by subst d;exact eP.not hg af af a
 have m:g≠l:=by exact YQ
 have k:∀b,eP w b->w'.heap[b]?=w.heap[b]?:=λb a=>r.rest b a.lt (n b a)
 have c:∀b,eP w b->eP w' b:=λb a=>by
  have e:=k b a
  rcases a with⟨y,f,i⟩|⟨y,f,i⟩
  .exact .inl ⟨y,f,e.trans i⟩
  .exact .inr ⟨y,f,e.trans i⟩
 refine⟨?_,?_,?_,?_,H.low,H.ty⟩
 .rw[s];exact(r.rest g H.blk.lt m).trans H.blk
 .exact(aD.move cd H.chans k (λb a=>r.rest b (H.chans.lt a).2 (λd=>by
   subst d
   obtain⟨rows,_,j,_⟩:=H.chans
   exact eh j hg af a.symm))).mono cd c
 .exact(aD.move aI H.waits k (λb a=>r.rest b (H.waits.lt a).2 (λd=>by
   subst d
   obtain⟨rows,_,j,_⟩:=H.waits
   exact eh j hg af a.symm))).mono aI c
 .rw[s];exact r.own
def ac0(base g:Nat)(c:dG)(A:Option Addr)(n k:Nat)(t F:Int)(h:Hl)(s y l:Option Addr)(C E r:Nat)(w:World)(e:Ending)(f:World):Prop:=e=.returned (.tuple #[])/\C4 f base g c A n k t F h s y l C E r/\Below base w f/\∀b,b<w.heap.size->some b≠(Value.slice l h.done.length r).ownBlock->f.heap[b]?=w.heap[b]?
theorem Hb(w:World)(H:C4 w base g c A n k t sq h A1 A2 A3 m1 m2 m3)(D:Option Addr)(y:Nat)(f:List Mo.Told)(F:j=f.length)(E:j<=100)(G:cN w ie D f)(C:∀b,D=some b->f≠[]->Ty w 188 b.block)(J:∀x∈f,x.th<h.done.length)(l:h.done≠[]) :
 Calls prog 274 #[.pointer g,.slice D j y] w (ac0 base g c A n k t sq {h with done:=fN h.done f} A1 A2 A3 m1 m2 m3 w):=by
 obtain⟨o,m,I,p,N⟩:=H.done.form l
 injection I with e1 e2 e3
 subst e1 e3
 clear e2
 obtain⟨P,M,hg⟩:=kz H.done
 have v:g≠o:=by exact YQ
 have d:base<=w.heap.size:=bm H.low (Nat.le_of_lt H.blk.lt)
 have B:w.cell? ⟨g,3,none⟩=some (.slice o h.done.length m3):=ag.cell H.blk 3
 have z:sM w w base o h.done.length m3 h.done:=⟨H.done,λ_ _ _=>rfl,(ai w).mono d,aR _,p⟩
 go_fit (PO w B H.blk.lt v d h.done z D y f F E G (λb q u s=>?_) J)
 .obtain⟨K,L,i⟩:=C b q u;rw[s,hg]at i;injection i with i
  injection i with _ h _
  exact absurd h af
 .rintro e O ⟨rfl,a⟩;refine⟨rfl,H.told (ld _ _) a,a.ext,λb q r=>a.rest b q (λs=>r (by
   subst s;have:h.done.length≠0:=by intro p;exact l (List.length_eq_zero_iff.1 p)
   simp[Value.ownBlock]))⟩
theorem Hc(w:World)(H:C4 w base g c A n k t sq h A1 A2 A3 m1 m2 m3)(hb:GN h)(tt nn:Int)(X:h.done.length=h.waits.length) :
 Calls prog 263 #[.pointer g,tt,nn] w (Ua base g c A n k t sq A1 A3 m1 m3 (eL h t tt nn) w):=by
 have M:Hid (Below w w (w.alloc ke)):=aj (ai w) _
 have Y:Hid (ag (w.alloc ke) w 64 #[oZ,oZ,oZ,oZ]):=ag.new _ _ _
 obtain⟨rH,HZ,HBZ,HFZ,uf,qj⟩:=cS (H.more M) (H.more (aj (ai w) (qh 0 0 12 0))) ((aj (ai w) (qh 0 0 12 0)).mono (bm H.low (Nat.le_of_lt H.blk.lt))) (H.PQ _ (.ext (aj (ai w) (qh 0 0 12 0)))) H.PQ H.nY
 have W:base<=w.heap.size:=bm H.low (Nat.le_of_lt H.blk.lt)
 have B8:g<w.heap.size:=H.blk.lt
 have HR:=ae (λ(j:Nat) (x:Wt) l=>ez.row rH.GP (j:=j) (x:=x) l)
 by_cases L:tt<0
 .have HX:=ae L;exact abo
 have i1:0<=tt:=aa
 have g1:¬tt<0:=L
 by_cases R:(h.waits.length:Int)<=tt
 .have HX:=ae R;exact abo
 have i2:tt<h.waits.length:=aa
 by_cases D:tt=t
 .have HX:=ae D;subst D;have d1:(tt==tt)=true:=aA;have wg:Hid (eL h tt tt nn=(h,bg 12)):=by unfold Hid eL;rw[ay (by first|exact .inl HX.Y|exact .inr (.inl HX.Y)|exact .inr (.inr (.inl HX.Y))|exact .inr (.inr (.inr (.inl HX.Y)))|exact .inr (.inr (.inr (.inr HX.Y))))]
  clear H hb HX;go_enter func263,ntmps263;have cI:=λi=>ag.cell (dx.blk rH) i;have eH:=ag.lt (dx.blk rH);unfold qb at cI;go_wp2_with fail;have fy:=λi=>ag.cell (ag.new w 64 #[oZ,oZ,.int .i64 12,oZ]) i;refine bodyPost_ret (v:=.agg #[oZ,oZ,.int .i64 12,oZ]) ?_ rfl ?_
  .clear cI;simp[results,results263,go_sem,fy]
  .rw[wg.Y];exact⟨rfl,⟨_,_,HZ⟩,HBZ,HFZ⟩
 have d3:(tt==t)=false:=by simpa using D
 obtain⟨j,rfl⟩:∃j:Nat,tt=j:=⟨tt.toNat,aa⟩
 have hj:j<h.waits.length:=aa
 obtain⟨x,l⟩:∃x,h.waits[j]?=some x:=⟨_,cq hj⟩
 have a:h.waits.getD (j:Int).toNat fU=x:=by rw[ew,fR,l];rfl
 obtain⟨ad,B,d,hA,Eh,kB,c0,c1,V,c3⟩:=HR.Y j x l
 subst hA
 clear Eh kB c3 c1
 obtain⟨on,tk,f,cs⟩:=x
 dsimp only at c0 V
 cases on with
 |false =>
  have HX:Hid ((h.waits.getD (j:Int).toNat fU).on=false):=by unfold Hid;rw[a]
  clear V a l;exact abp
 |true =>
  by_cases S:f=nn
  .subst S;have HG:Hid (eL h t j f=({h with waits:=et h.waits j,done:=fN h.done [⟨j,⟨f,0,11,0⟩⟩]},cE)):=by
    unfold Hid eL;rw[au (by
     rintro(m|m|m|m|m)
     .exact L m
     .exact R m
     .exact D m
     .rw[a]at m;cases m
     .rw[a]at m;exact m rfl)]
    rw[fR]
   have Sb:=ae (λwx (u9:Below w w wx)=>tW wx (some ad) m2 h.waits rfl (bm hb.waits af) (H.more u9).GP (λx l=>bm (hb.cases x l) af) l rfl);have a6:h.done≠[]:=by intro Z;rw[Z]at X;simp at X;omega
   have aq:j<h.done.length:=by rw[X];exact hj
   have d5:(f !=f)=false:=aA;have j5:=ae (λb hb=>Nat.ne_of_lt (qj.2.2.2 b hb));clear H hb a l L R D;go_enter func263,ntmps263;obtain⟨E,F,-⟩:=ag.aF Y;have G:=ag.lt Y;obtain⟨cI,o,-⟩:=ag.aF (dx.blk rH);have eH:=ag.lt (dx.blk rH);unfold qb at cI;go_wp2_with fail;refine(Sb _ M).mono ?_;rintro e C ⟨v,rfl,y,z,rfl,s,p⟩;obtain⟨U,K,N⟩:=aS (ah M p) (rH.more p) (Y.ah p);have kR:(et h.waits j).length=h.waits.length:=by unfold et;rw[dN]
   rw[<-kR]at s;have lW:=ae (s.bL (base':=base) (by have:=M.size;omega));clear p s c0 V E F G cI o eH;obtain⟨E,F,-⟩:=ag.aF N;have G:=ag.lt N;obtain⟨cI,o,-⟩:=ag.aF (dx.blk K);have eH:=ag.lt (dx.blk K);unfold qb at cI;go_wp2_with fail;obtain⟨sN,I⟩:=av (K.JS lW) (aX N (b:=w.heap.size) (g:=g) aa [.slice y (et h.waits j).length z] 2);have T:Hid (Below base w (ax C g 2 [.slice y (et h.waits j).length z])):=az K.low _ _ _ (U.mono W);rw[kR]at sN I T;change Calls _ _ _ ((ax C g 2 [.slice y h.waits.length z]).alloc (.cells #[j,f,oZ,.int .i64 11,oZ] 188)) _;have qG:Hid (gu w g (.slice A1 h.chans.length m1) (.slice A3 h.done.length m3) (ax C g 2 [.slice y h.waits.length z])):=(gu.ext U).Co _ _;clear E F G cI o eH U K N lW;have J:(ax C g 2 [.slice y h.waits.length z]).heap.size=C.heap.size:=bO _ _ _;rw[<-J];generalize ax C g 2 [.slice y h.waits.length z]=u at *;clear J;have r:aH (u.alloc (.cells #[j,f,oZ,.int .i64 11,oZ] 188)) u 188 5 ie (.slice u 1 1) [⟨j,⟨f,0,11,0⟩⟩]:=World.ownsRow_lit u #[j,f,oZ,.int .i64 11,oZ] 1 (aR _) af (size:=5) rfl;obtain⟨lM,O,bU⟩:=aS (sN.more (aj (ai u) (.cells #[j,f,oZ,.int .i64 11,oZ] 188))) (I.alloc (.cells #[j,f,oZ,.int .i64 11,oZ] 188)) (GV T (bm W (Nat.le_of_lt I.lt)) (.cells #[j,f,oZ,.int .i64 11,oZ] 188));refine(Hb (j:=1) _ lM u 1 [⟨j,⟨f,0,11,0⟩⟩] rfl aA r.xS.2 (λb hb _=>by injection hb with hb;subst hb;exact kz r) (λx l=>by simp at l;subst l;exact aq) a6).mono ?_;rintro e Q ⟨rfl,(sO:Hid _),Jq,pV⟩;obtain⟨xb,fh⟩:=av ((qG.more (Nat.le_of_lt I.lt) (aj (ai u) _)).tell (Nat.le_of_lt O.lt) pV (yD _ _ _ _ _)) (bU.trans Jq);have j7:Hid (∀b,(Value.slice A3 (fN h.done [⟨j,⟨f,0,11,0⟩⟩]).length m3).ownBlock=some b->b≠w.heap.size):=by unfold Hid;rw[ld];exact j5.Y
   have P:Hid (ag Q w 64 #[oZ,oZ,oZ,oZ]):=(pV w O.lt (λZ=>j7 _ Z.symm rfl)).trans O;clear Jq pV lM O bU r sN I T;obtain⟨E,F,-⟩:=ag.aF P;have G:=ag.lt P;obtain⟨cI,o,-⟩:=ag.aF (dx.blk sO);have eH:=ag.lt (dx.blk sO);unfold qb at cI;clear o;go_wp2_with fail;have iB:=aY (vs:=[oZ,oZ,oZ,oZ]) P rfl;have Aj:=dx.yJ sO P af af af af af j7 0 [oZ,oZ,oZ,oZ];have kN:Below base w (ax Q w 0 [oZ,oZ,oZ,oZ]):=az W _ _ _ fh;change bodyPost _ _ _ _ _ (ax Q w 0 [oZ,oZ,oZ,oZ]);have Ak:=uf.Y _ (xb.new (q:=w.heap.size) aa 0 [oZ,oZ,oZ,oZ]);clear E F G cI eH;generalize ax Q w 0 [oZ,oZ,oZ,oZ]=wz at *;have fy:=λi=>ag.cell iB i;refine bodyPost_ret (v:=.agg #[oZ,oZ,oZ,oZ]) ?_ rfl ?_
   .simp[results,results263,go_sem,fy]
   .exact Ma
  .have HX:Hid ((h.waits.getD (j:Int).toNat fU).seq≠nn):=by unfold Hid;rw[a];exact S
   have d5:(f !=nn)=true:=by simpa using S
   clear a l;exact abp
structure Md (G:Mo.r7) (xs:List Mo.Wt):Prop where
 len:G.l.length=xs.length
 told:G.told.length<=xs.length
 th:∀x∈G.told,x.th<xs.length
theorem JT(x:Ch)(l:Int)(f:List Wt):Md (kP x l f) f:=by
 unfold kP;split
 .exact⟨rfl,aZ _,λy a=>by cases a⟩
 .refine⟨JK,?_,?_⟩
  .have b:(mi f l).length<=f.length:=by
    unfold mi;rw[jl];exact bm (List.length_filter_le _ _) aA
   simpa using b
  .intro y a;obtain⟨t,c,rfl⟩:=List.mem_map.1 a;obtain⟨x,d,_⟩:=Cj c;exact bT d
theorem Ep(xs:List Wt)(t:Nat):(et xs t).length=xs.length:=by unfold et;rw[dN]
theorem Qq{l:List Wt}{f:Int}{t:Nat}(h:dt l f hd=some (t,i)):t<l.length:=by obtain⟨x,a,_⟩:=kA h;exact bT a
theorem Uy(x:Ch)(l:Int)(f:List Wt)(r:Int):Md (mP x l f r) f:=by
 unfold mP;split
 .exact WD
 .exact⟨rfl,aZ _,λy hy=>by cases hy⟩
theorem Uz(x:Ch)(l:Int)(f:List Wt):Md (mQ x l f) f:=by
 unfold mQ;split
 .exact⟨rfl,aZ _,λy hy=>by cases hy⟩
 .exact WD
theorem WE(x:Ch)(r:Int)(l:List Wt)(f s:Int):Md (nz x r l f s) l:=by
 unfold nz;repeat' split
 all_goals first|exact Uy _ _ _ _|exact Uz _ _ _|exact⟨rfl,aZ _,λy a=>by cases a⟩
theorem dx.got(H:dx w base g T tl h g1 A2 A3 m1 m2 m3)(r:i<h.chans.length){G:r7}(l:j9 G n1 base' w B d A4 m4 D dd)(s:G.l.length=n1)(f:base<=base') :
 dx (ax (ax w g1 (i*5) [G.c.gen,G.c.cap,G.c.used,G.c.closed,.slice B G.c.buf.length d]) g 2 [.slice A4 n1 m4]) base g T tl {h with chans:=h.chans.set i G.c,waits:=G.l} g1 A4 A3 m1 m4 m3 /\
 cN (ax (ax w g1 (i*5) [G.c.gen,G.c.cap,G.c.used,G.c.closed,.slice B G.c.buf.length d]) g 2 [.slice A4 n1 m4]) ie D G.told /\
 (∀b,D=some b->G.told≠[]->Ty (ax (ax w g1 (i*5) [G.c.gen,G.c.cap,G.c.used,G.c.closed,.slice B G.c.buf.length d]) g 2 [.slice A4 n1 m4]) 188 b.block):=by
 subst s
 obtain⟨q,j,o⟩:=H.chans.ty
 have p:¬eP w g1:=eP.not j af af
 have m:=H.Eg r G.c B d l.cap l.pw l.Ns
 have n:j6 (ax w g1 (i*5) [G.c.gen,G.c.cap,G.c.used,G.c.closed,.slice B G.c.buf.length d]) base (.slice A4 G.l.length m4) G.l :=
  (aD.move aI (l.own.bL f) (λb f=>aM (λc=>by subst c;exact p f) _ _) (λb f=>aM (λc=>by
    subst c
    obtain⟨rows,_,a,_⟩:=l.own
    exact eh a j af f.symm) _ _)).mono aI (λb f=>fB _ _ _ f)
 have U:o7 w (ax (ax w g1 (i*5) [G.c.gen,G.c.cap,G.c.used,G.c.closed,.slice B G.c.buf.length d]) g 2 [.slice A4 G.l.length m4]) g1 g 50 T:=⟨⟨_,j⟩,⟨_,H.blk⟩,λb e a=>(aM a _ _).trans (aM e _ _),by rw[bO,bO]⟩
 refine⟨m.JS n,?_,λb e a=>(U.ty (l.LG b e a) af H.ty.2.2.2.2.2).1⟩
 exact U.rd l.Se (λb f k=>l.LG b f (λc=>k (by rw[c];rfl))) af H.ty.2.2.2.2.2
theorem j9.one{g:r7}{c:Nat}(h:j9 g n base w B d A c D dd)(T:o7 w w' q q 50 50):j9 g n base w' B d A c D dd :=
 ⟨T.rd h.pw (λb e a=>h.Ns b e (λf=>a (by rw[f];rfl))) af af,λb e a=>(T.ty (h.Ns b e a) af af).1,h.cap,T.qR aI h.own af af af af,
  T.rd h.Se (λb e a=>h.LG b e (λf=>a (by rw[f];rfl))) af af,λb e a=>(T.ty (h.LG b e a) af af).1,h.GJ⟩
theorem dx.yK(H:dx w base g T tl h g1 A2 A3 m1 m2 m3):g≠g1:=λe=>by
 obtain⟨b,a,_⟩:=H.chans.ty
 have:=H.blk
 unfold ag at this
 subst e
 rw[a]at this
 injection this with this
 injection this with _ this
 exact H.ty.2.2.1 this
def Ext(w w':World):Prop:=Below w w w'
theorem Ext.Y(h:Ext a b):Below a a b:=h
theorem Ext.start(w:World):Ext w w.drew:=(ai w).drew
theorem Ext.iD(w:World)(o:Obj):Ext w (w.alloc o).drew:=(aj (ai w) o).drew
theorem Ext.vo(w:World)(o f:Obj):Ext w ((w.alloc o).alloc f).drew:=(aj (aj (ai w) o) f).drew
theorem Ext.alloc(h:Ext a b)(o:Obj):Ext a (b.alloc o):=aj h o
theorem Ext.to(h:Ext a b)(k:Below b b w):Ext a w:=ah h k
theorem Ext.set(h:Ext a b)(l:a<=p.block):Ext a (b.setCell p u):=h.setCell l u
theorem Ext.cell(h:Ext a b)(hc:a.cell? p=some u):b.cell? p=some u:=by rw[<-hc];exact Below.cell h (bc hc)
def Y8(w:World)(base g E:Nat)(c:dG)(A:Option Addr)(n k:Nat)(t K:Int)(h:Hl)(r s:Option Addr)(F H I:Nat)(G:r7)(f:World)(p:Nat)(l:Option Addr)(d2:Nat)(y:Option Addr)(J:Nat)(D:Option Addr)(C:Nat):Prop:=ag f p 50 #[G.c.gen,G.c.cap,G.c.used,G.c.closed,.slice l G.c.buf.length d2]/\C4 f base g c A n k t K h E r s F H I/\ag f w 64 #[oZ,oZ,oZ,oZ]/\j9 G h.waits.length w f l d2 y J D C/\Below w w f/\w<p
def abq(w:World)(base g s:Nat)(c:dG)(A:Option Addr)(n k:Nat)(t J:Int)(h:Hl)(f l:Option Addr)(y C E:Nat)(G:r7)(F H I r:Value)(K:World):Prop :=∃p B2 d2 A4 m4 D dd,F=.pointer (some ⟨p,0,none⟩)/\H=.slice A4 h.waits.length m4/\I=G.r.code/\r=.slice D G.told.length dd/\Y8 w base g s c A n k t J h f l y C E G K p B2 d2 A4 m4 D dd
theorem Me(w:World)(H:C4 w base g c A n k t sq h A1 A2 A3 m1 m2 m3)(U:GN h)(O:Int)(fF:h.done.length=h.waits.length)(Q:h.done≠[]) :
 Calls prog 261 #[.pointer g,O] w (Ua base g c A n k t sq A1 A3 m1 m3 (mS h O) w):=by
 have T:Hid (Below w w (w.alloc ke)):=aj (ai w) _
 have gC:Hid (ag (w.alloc ke) w 64 #[oZ,oZ,oZ,oZ]):=ag.new _ _ _
 obtain⟨rH,uf,qj⟩:=aS (H.more T) H.PQ H.nY
 have cG:base<=w.heap.size:=bm H.low (Nat.le_of_lt H.blk.lt)
 obtain⟨m,-,K⟩:=ag.aF rH.blk
 unfold qb at m
 have B8:g<w.heap.size:=H.blk.lt
 obtain⟨mf,jf,Qr⟩:=aS (λa (u9:Below w w a)=>oM a h.ak A1 m1 h.chans rfl ((H.more u9).xv) (.slice A2 h.waits.length m2) (.slice A3 h.done.length m3) h.waits h.done O) fF Q
 clear fF Q
 have j5:=ae (λb U=>Nat.ne_of_lt (qj.2.2.2 b U))
 obtain⟨r,hr⟩:=aw (bP h O)
 have e0:bP ⟨h.ak,h.chans,h.waits,h.done⟩ O=r:=hr.symm
 rw[e0]at mf
 have rB:=ae hr
 clear hr e0
 cases r with
 |none =>
  have HG:Hid (mS h O=(h,bg 8)):=by unfold Hid mS;rw[<-rB.Y]
  clear H U;go_enter func261,ntmps261;go_wp2_with fail;go_fit (mf _ T);rintro e l ⟨rfl,j⟩;obtain⟨W,P,S,uF⟩:=bh ((T.mono cG).trans (j.mono ui)) (rH.more j) (gC.ah j) (ah T j);clear j m K;obtain⟨bN,cj,-⟩:=ag.aF S;have cu:=ag.lt S;obtain⟨m,J,-⟩:=ag.aF (dx.blk P);have K:=ag.lt (dx.blk P);unfold qb at m;clear J;go_wp2_with fail;have iB:=aY (vs:=[oZ,oZ,.int .i64 8,oZ]) S rfl;have Aj:=dx.b9 P qj (aR _) S af af 0 [oZ,oZ,.int .i64 8,oZ];have kN:Below base w (ax l w 0 [oZ,oZ,.int .i64 8,oZ]):=az cG _ _ _ W;change bodyPost _ _ _ _ _ (ax l w 0 [oZ,oZ,.int .i64 8,oZ]);have Ak:=uf.Y _ ((gu.ext uF).new (q:=w.heap.size) aa 0 [oZ,oZ,.int .i64 8,oZ]);clear bN cj cu m K;generalize ax l w 0 [oZ,oZ,.int .i64 8,oZ]=wz at *;have fy:=λi=>ag.cell iB i;refine bodyPost_ret (v:=.agg #[oZ,oZ,.int .i64 8,oZ]) ?_ rfl ?_
  .simp[results,results261,go_sem,fy]
  .exact Ma
 |some i =>
  obtain⟨x,f,hu,a7⟩:=lg rB.symm;clear a7;have BS:x.buf.length<=90000:=U.buf x (bo f);have Z:=ae (λa (u9:Below w w a) (B:Option Addr) (d:Nat) (kB:bD a .i64 B x.buf)=>PM a x B x.buf.length d rfl BS kB A2 m2 h.waits rfl U.waits ((H.more u9).GP) (λy hy=>U.cases y hy) O hu);have a6:fO h i=x:=by unfold fO;rw[ew,f];rfl
  obtain⟨G,N⟩:=aw (kP x O h.waits);have HG:Hid (mS h O=({h with chans:=h.chans.set i G.c,waits:=G.l,done:=fN h.done G.told},bg G.r.code)):=by unfold Hid mS;rw[<-rB.Y];dsimp only;rw[a6,N]
  have He:Hid (Md G h.waits):=by rw[N];exact JT _ _ _
  rw[<-N]at Z;have HX:=ae f;have uv:i<h.chans.length:=bT f;have Cu:h.waits.length<=19:=U.waits;clear H U a6 N;go_enter func261,ntmps261;go_wp2_with fail;go_fit (mf _ T);rintro e l ⟨rfl,j⟩;obtain⟨W,P,S⟩:=aS (ah T j) (rH.more j) (gC.ah j);obtain⟨u,mm,hv,(bz:Hid _),bE⟩:=P.chans.form (by have:=bo HX;intro he;rw[he]at this;cases this);injection hv with e1 e2 e3
  subst e1 e3;clear e2;obtain⟨ad,B,d,I,Eh,(jC:Hid _),M,z,o,C,s⟩:=lV.row P.xv f;injection I with I
  subst I;rw[lU,Nat.zero_add]at M z o C s;dsimp only at z o C s;have LM:u<w.heap.size:=qj.2.1 u rfl;rw[hu]at o Z;generalize x.buf.length=bl at s Z;have i1:(0:Int)<=(i:Int):=aa;have i2:(i:Int)<(h.chans.length:Int):=aa;clear j m K f hu Eh BS;obtain⟨m,-,K⟩:=ag.aF P.blk;unfold qb at m;go_upto_region 4 with fail
  go_cut[7,8,9,10] (λs7 s8 s9 UA a=>abq w base g u c A n k t sq h A2 A3 m1 m2 m3 G s7 s8 s9 UA a);case first =>
   obtain⟨Bh,Hf,Er⟩:=aS (λa (f:Ext l a)=>P.Y.more f.Y) (λa (f:Ext l a)=>S.ah f.Y) (λa (f:Ext l a)=>Z a (ah W f.Y) B d (jC.below f.Y));have m:=λa (f:Ext l a) i=>ag.cell (dx.blk (Bh a f)) i;unfold qb at m;have d0:=λa (f:Ext l a)=>f.cell M;have d1:=λa (f:Ext l a)=>f.cell z;have d2:=λa (f:Ext l a)=>f.cell o;have d3:=λa (f:Ext l a)=>f.cell C;have d4:=λa (f:Ext l a)=>f.cell s;have DS:w.heap.size<l.heap.size:=S.lt;have a8:Hid (ag (l.alloc rp).drew l 50 #[.int .i64 0,.int .i64 0,.bool false,.bool false,.slice none 0 0]):=ag.new l 50 #[.int .i64 0,.int .i64 0,.bool false,.bool false,.slice none 0 0];clear M z o C s;go_region_held3(Ext l) (with_reducible(first|assumption|exact Ext.start _|exact Ext.iD _ _|exact Ext.alloc (by assumption) _|((repeat(refine Ext.set ?_ (by simp;try omega)));first|assumption|exact Ext.alloc (by assumption) _))) (((with_reducible refine(Er.Y _ (by assumption)).mono ?_);rintro e w2 ⟨E,e2,L,R,D,dd,rfl,hP,V⟩;have xx:=Ext.to (by assumption) V;have X:=ae hP;(try(have jm:=ae (a8.Y.ah V);have aq:=λi=>ag.cell jm.Y i;have Sp:=λi=>ag.free jm.Y i;have fE:=ag.lt jm.Y));clear hP))
   .go_wp2;go_meet;exact⟨_,E,e2,L,R,D,dd,rfl,rfl,rfl,rfl,ag.new _ _ _,Bh.Y _ (by assumption),Hf.Y _ (by assumption),(X.Y.bL (base':=w.heap.size) (Nat.le_of_lt DS)).more (aj (ai _) _),ah W.Y (Ext.Y (by assumption)),by have:=V.size;simp at this;omega⟩
   .go_wp2;go_meet;have hT:=o7.one (v1:=[.int .i64 G.c.gen,.int .i64 G.c.cap,.bool G.c.used,.bool G.c.closed,.slice E G.c.buf.length e2]) jm rfl;exact⟨_,E,e2,L,R,D,dd,rfl,rfl,rfl,rfl,hT.2,Bh.Y _ (by assumption),Hf.Y _ (by assumption),(X.Y.bL (base':=w.heap.size) (by simp;omega)).one hT.1,ah W.Y (Ext.Y (by assumption)),DS⟩
  case rest =>
   obtain⟨p,E,d2,L,R,D,dd,rfl,rfl,rfl,rfl,(HC:Hid _),hV,hQ,hP,hB,hp⟩:=hcut;obtain⟨F,HQ,X,HB,uF⟩:=bQ hV hQ hP (hB.mono cG) hB;obtain⟨ad,B9,d9,I,_,_,M,z,o,C,s⟩:=lV.row hV.xv HX;injection I with I
   subst I;have f0:=F.chans.bq (i*5);have f1:=F.chans.bq (i*5+1);have f2:=F.chans.bq (i*5+2);have f3:=F.chans.bq (i*5+3);have f4:=F.chans.bq (i*5+4);rw[lU,Nat.zero_add]at M z o C s;dsimp only at z o C s;have Q:g≠u:=hV.yK;have Ac:u≠g:=λe=>Q e.symm;clear hV hQ hP hB P S W rH mf Z jC m K T gC;clear M z o C s;obtain⟨ad,B9,d9,I,_,_,M,z,o,C,s⟩:=lV.row F.xv HX;injection I with I
   subst I;rw[lU,Nat.zero_add]at M z o C s;dsimp only at z o C s;have aq:=λi=>ag.cell HC i;obtain⟨m,J,-⟩:=ag.aF (dx.blk F);have K:=ag.lt (dx.blk F);unfold qb at m;go_wp2;go_region;have N:=F.got uv X He.len cG;have VV:=aX (aX HQ (b:=w.heap.size) (g:=u) aa [G.c.gen,G.c.cap,G.c.used,G.c.closed,.slice E G.c.buf.length d2] (i*5)) (g:=g) aa [.slice L h.waits.length R] 2;have JU:Below base w (ax (ax wc u (i*5) [G.c.gen,G.c.cap,G.c.used,G.c.closed,.slice E G.c.buf.length d2]) g 2 [.slice L h.waits.length R]):=az F.low _ _ _ (az bz _ _ _ HB);have oc:Hid (gu w g (.slice u h.chans.length m1) (.slice A3 h.done.length m3) (ax (ax wc u (i*5) [G.c.gen,G.c.cap,G.c.used,G.c.closed,.slice E G.c.buf.length d2]) g 2 [.slice L h.waits.length R]).drew):=(((gu.ext uF).GU (q:=u) rfl (i*5) [G.c.gen,G.c.cap,G.c.used,G.c.closed,.slice E G.c.buf.length d2]).Co _ _).drew;have rK:=(ai (ax (ax wc u (i*5) [G.c.gen,G.c.cap,G.c.used,G.c.closed,.slice E G.c.buf.length d2]) g 2 [.slice L h.waits.length R])).drew;obtain⟨nu,iA,Y,lz,iq⟩:=bQ (N.1.more rK) (N.2.1.below rK) (λb h1 h2=>(N.2.2 b h1 h2).below rK) (VV.ah rK) JU.drew;clear N VV JU rK M z o C s f0 f1 f2 f3 f4 m J aq K HC F HQ X HB;change Exit.then _ _ _ _ (ax (ax wc u (i*5) [G.c.gen,G.c.cap,G.c.used,G.c.closed,.slice E G.c.buf.length d2]) g 2 [.slice L h.waits.length R]).drew;generalize(ax (ax wc u (i*5) [G.c.gen,G.c.cap,G.c.used,G.c.closed,.slice E G.c.buf.length d2]) g 2 [.slice L h.waits.length R]).drew=w5 at *;go_wp2_with fail;go_fit (Hb _ nu D dd G.told rfl (bm He.told (bm Cu af)) iA Y (λx f=>by rw[jf.Y];exact He.th x f) Qr);rintro e w3 ⟨rfl,(sO:Hid _),Jq,pV⟩;obtain⟨xb,fh⟩:=av (oc.tell (Nat.le_of_lt lz.lt) pV (yD _ _ _ _ _)) (iq.trans Jq);have j7:Hid (∀b,(Value.slice A3 (fN h.done G.told).length m3).ownBlock=some b->b≠w.heap.size):=by unfold Hid;rw[ld];exact j5.Y
   have ku:Hid (ag w3 w 64 #[oZ,oZ,oZ,oZ]):=(pV w lz.lt (λhe=>j7 _ he.symm rfl)).trans lz;clear Jq pV nu lz iq iA Y;obtain⟨bN,cj,-⟩:=ag.aF ku;have cu:=ag.lt ku;obtain⟨m,J,-⟩:=ag.aF (dx.blk sO);have K:=ag.lt (dx.blk sO);unfold qb at m;clear J;go_wp2_with fail;have iB:=aY (vs:=[oZ,oZ,G.r.code,oZ]) ku rfl;have Aj:=dx.yJ sO ku af af af af af j7 0 [oZ,oZ,G.r.code,oZ];have kN:Below base w (ax w3 w 0 [oZ,oZ,G.r.code,oZ]):=az cG _ _ _ fh;change bodyPost _ _ _ _ _ (ax w3 w 0 [oZ,oZ,G.r.code,oZ]);have Ak:=uf.Y _ (xb.new (q:=w.heap.size) aa 0 [oZ,oZ,G.r.code,oZ]);clear bN cj cu m K;generalize ax w3 w 0 [oZ,oZ,G.r.code,oZ]=wz at *;have fy:=λi=>ag.cell iB i;refine bodyPost_ret (v:=.agg #[oZ,oZ,G.r.code,oZ]) ?_ rfl ?_
   .simp[results,results261,go_sem,fy]
   .exact Ma
theorem j9.ac1{g:r7}{c:Nat}(h:j9 g n base w B d A c D dd)(T:o7 w w' q q 64 64):j9 g n base w' B d A c D dd :=
 ⟨T.rd h.pw (λb e a=>h.Ns b e (λf=>a (by rw[f];rfl))) af af,λb e a=>(T.ty (h.Ns b e a) af af).1,h.cap,T.qR aI h.own af af af af,
  T.rd h.Se (λb e a=>h.LG b e (λf=>a (by rw[f];rfl))) af af,λb e a=>(T.ty (h.LG b e a) af af).1,h.GJ⟩
theorem Y9(w:World)(x:Ch)(B:Option Addr)(r d:Nat)(y:r=x.buf.length)(F:r<=90000)(s:bD w .i64 B x.buf)(A:Option Addr)(c:Nat)(l:List Wt)(I:n=l.length)(H:n<=90000)(J:ez w A l)(G:∀x∈l,x.cases.length<=90000)(C:Int)(f E:Int)(M:f=1\/f=2)(K:x.used=true)(L:cX x C l f=true) :
 Calls prog 278 #[.agg #[x.gen,x.cap,x.used,x.closed,.slice B r d],C,.slice A n c,f,E] w (qQ (nz x C l f E) n w):=by
 rcases M with rfl|rfl
 .exact T4 w x B r d y F s A c l I H J G C E K L
 .exact T5 w x B r d y F s A c l I H J G C E K L
def abr(w:World)(base g E:Nat)(c:dG)(A:Option Addr)(n k:Nat)(t K:Int)(h:Hl)(s y:Option Addr)(F H I:Nat)(G:r7)(J C l r:Value)(f:World):Prop :=
 ∃p q B2 d2 A4 m4 D dd,J=.pointer (some ⟨p,0,none⟩)/\C=.slice A4 h.waits.length m4/\l=.pointer (some ⟨q,0,none⟩)/\r=.slice D G.told.length dd /\
  ag f p 50 #[G.c.gen,G.c.cap,G.c.used,G.c.closed,.slice B2 G.c.buf.length d2]/\ag f q 64 #[G.r.seq,G.r.cs,G.r.code,G.r.value]/\C4 f base g c A n k t K h E s y F H I/\ag f (w+1) 64 #[oZ,oZ,oZ,oZ]/\j9 G h.waits.length w f B2 d2 A4 m4 D dd/\Below w w f/\w+1<p/\w+1<q/\(p<q\/q<p)
theorem Qs(w:World)(H:C4 w base g c A n k t sq h A1 A2 A3 m1 m2 m3)(C:GN h)(r:Nat)(f:Cs)(qc:f.1=1\/f.1=2)(fF:h.done.length=h.waits.length)(L:h.done≠[])(O:bP h f.2.1=some i)(kB:cX (fO h i) f.2.1 h.waits f.1=true) :
 Calls prog 271 #[.pointer g,r,.agg #[f.1,f.2.1,f.2.2]] w (Ua base g c A n k t sq A1 A3 m1 m3 (wO h r f) w):=by
 have Z:Hid (Below w w ((w.alloc (.cells #[f.1,f.2.1,f.2.2] 101)).alloc ke)):=aj (aj (ai w) _) _
 have eW:Hid (ag ((w.alloc (.cells #[f.1,f.2.1,f.2.2] 101)).alloc ke) w 101 #[f.1,f.2.1,f.2.2]):=(ag.new _ _ _).alloc _
 have gC:Hid (ag ((w.alloc (.cells #[f.1,f.2.1,f.2.2] 101)).alloc ke) (w.heap.size+1) 64 #[oZ,oZ,oZ,oZ]):=(ag.newAt _ _ _ aA)
 obtain⟨oo,uf,qj⟩:=aS (H.more Z) H.PQ H.nY
 have cG:base<=w.heap.size:=bm H.low (Nat.le_of_lt H.blk.lt)
 have B8:g<w.heap.size:=H.blk.lt
 obtain⟨mf,jf,Qr⟩:=aS (λa (u9:Below w w a)=>oM a h.ak A1 m1 h.chans rfl ((H.more u9).xv) (.slice A2 h.waits.length m2) (.slice A3 h.done.length m3) h.waits h.done f.2.1) fF L
 clear fF L
 have j5:=ae (λb C=>Nat.ne_of_lt (qj.2.2.2 b C))
 have e0:bP ⟨h.ak,h.chans,h.waits,h.done⟩ f.2.1=some i:=O
 rw[e0]at mf
 clear e0
 obtain⟨x,j,hu,a7⟩:=lg O
 clear a7
 have BS:x.buf.length<=90000:=C.buf x (bo j)
 have Q:fO h i=x:=by unfold fO;rw[ew,j];rfl
 rw[Q]at kB
 have X:=ae (λa (u9:Below w w a) (B:Option Addr) (d:Nat) (Fp:bD a .i64 B x.buf)=>(Y9 a x B x.buf.length d rfl BS Fp A2 m2 h.waits rfl (bm C.waits af) ((H.more u9).GP) (λy hy=>C.cases y hy) f.2.1 f.1 f.2.2 qc hu kB).mono (λ_ _ hq=>qQ.p hq))
 obtain⟨G,J⟩:=aw (nz x f.2.1 h.waits f.1 f.2.2)
 have HG:Hid (wO h r f=({h with chans:=h.chans.set i G.c,waits:=G.l,done:=fN h.done G.told},{G.r with cs:=r})):=by unfold Hid wO;rw[O];dsimp only[Option.getD_some];rw[Q,J]
 have He:Hid (Md G h.waits):=by rw[J];exact WE _ _ _ _ _
 rw[<-J]at X
 have HX:=ae j
 have uv:i<h.chans.length:=bT j
 have Cu:h.waits.length<=19:=C.waits
 have oJ:((w.alloc (.cells #[f.1,f.2.1,f.2.2] 101)).alloc ke).heap.size=w.heap.size+1+1:=aA
 obtain⟨T,a8⟩:=aw ((w.alloc (.cells #[f.1,f.2.1,f.2.2] 101)).alloc ke)
 clear H C Q J O kB qc
 go_enter func271,ntmps271
 go_wp2_with fail
 rw[<-a8]at Z eW gC oo oJ ⊢
 have Y:=ae (λa (j:Ext T a)=>mf a (ah Z j.Y))
 have E:=λa (j:Ext T a) i=>ag.cell (dx.blk (oo.more j.Y)) i
 have cU:=λa (j:Ext T a) i=>ag.cell (eW.ah j.Y) i
 unfold qb at E
 have ct:g<T.heap.size:=aa
 clear a8 mf
 go_region_held3(Ext T) (with_reducible(first|assumption|exact Ext.start _)) (((with_reducible go_fit (Y.Y _ aN));rintro e l ⟨rfl,aq⟩;have gF:=Ext.to aN aq))
 have nj:Hid (Ext T l):=gF
 clear E cU gF Y
 obtain⟨br,lX,gD,eZ⟩:=bh (ah Z nj) (oo.more nj) (gC.ah nj) (eW.ah nj)
 clear aq Z oo gC eW
 obtain⟨o,mm,hv,(bz:Hid _),b8⟩:=lX.chans.form (by have:=bo HX;intro he;rw[he]at this;cases this)
 injection hv with e1 e2 e3
 subst e1 e3
 clear e2
 obtain⟨ad,B,d,P,Eh,(jC:Hid _),N,F,u,I,z⟩:=lV.row lX.xv j
 injection P with P
 subst P
 rw[lU,Nat.zero_add]at N F u I z
 dsimp only at F u I z
 have LM:o<w.heap.size:=qj.2.1 o rfl
 rw[hu]at u X
 generalize x.buf.length=bl at z X
 have i1:(0:Int)<=(i:Int):=aa
 have i2:(i:Int)<(h.chans.length:Int):=aa
 clear j hu Eh BS
 have DS:w.heap.size+1<l.heap.size:=gD.lt
 go_wp2_with fail
 go_upto_region 2 with fail
 go_cut[9,10,11,12] (λs9 UA b6 b7 a=>abr w base g o c A n k t sq h A2 A3 m1 m2 m3 G s9 UA b6 b7 a)
 case first =>
  obtain⟨Bh,Hf,Er⟩:=aS (λa (j:Ext l a)=>lX.more j.Y) (λa (j:Ext l a)=>gD.ah j.Y) (λa (j:Ext l a)=>X a (ah br j.Y) B d (jC.below j.Y));have E:=λa (j:Ext l a) i=>ag.cell (dx.blk (Bh a j)) i;have cU:=λa (j:Ext l a) i=>ag.cell (eZ.ah j.Y) i;unfold qb at E;have d0:=λa (j:Ext l a)=>j.cell N;have d1:=λa (j:Ext l a)=>j.cell F;have d2:=λa (j:Ext l a)=>j.cell u;have d3:=λa (j:Ext l a)=>j.cell I;have d4:=λa (j:Ext l a)=>j.cell z;have C6:Hid (ag (l.alloc rp).drew l 50 #[oZ,oZ,false,false,oN]):=ag.new l 50 #[oZ,oZ,false,false,oN];have ik:Hid (ag (l.alloc ke).drew l 64 #[oZ,oZ,oZ,oZ]):=ag.new l 64 #[oZ,oZ,oZ,oZ];have xy:Hid (ag ((l.alloc rp).alloc ke).drew l 50 #[oZ,oZ,false,false,oN]):=(ag.new l 50 #[oZ,oZ,false,false,oN]).alloc ke;have jw:Hid (ag ((l.alloc rp).alloc ke).drew (l.heap.size+1) 64 #[oZ,oZ,oZ,oZ]):=ag.newAt (l.alloc rp) 64 #[oZ,oZ,oZ,oZ] aA;have Sf:Hid (ag ((l.alloc ke).alloc rp).drew (l.heap.size+1) 50 #[.int .i64 0,.int .i64 0,.bool false,.bool false,.slice none 0 0]):=ag.newAt (l.alloc ke) 50 #[.int .i64 0,.int .i64 0,.bool false,.bool false,.slice none 0 0] aA;have gN:Hid (ag ((l.alloc ke).alloc rp).drew l 64 #[.int .i64 0,.int .i64 0,.int .i64 0,.int .i64 0]):=(ag.new l 64 #[.int .i64 0,.int .i64 0,.int .i64 0,.int .i64 0]).alloc rp;clear N F u I z;go_region_held3(Ext l) (with_reducible(repeat(first|assumption|exact Ext.start _|exact Ext.iD _ _|exact Ext.vo _ _ _|refine Ext.alloc ?_ _|refine Ext.set ?_ (by simp;try omega)))) (((with_reducible refine(Er.Y _ (by assumption)).mono ?_);rintro e w2 ⟨B2,e2,A4,m4,D,dd,rfl,hP,m⟩;have xx:=Ext.to (by assumption) m;have HP:=ae hP;(try(have jm:=ae (C6.Y.ah m);have K:=λi=>ag.cell jm.Y i;have Sp:=λi=>ag.free jm.Y i;have fE:=ag.lt jm.Y));(try(have Ad:=ae (ik.Y.ah m);have VX:=λi=>ag.cell Ad.Y i;have O:=λi=>ag.free Ad.Y i;have a6:=ag.lt Ad.Y));(try(have jm:=ae (xy.Y.ah m);have K:=λi=>ag.cell jm.Y i;have Sp:=λi=>ag.free jm.Y i;have fE:=ag.lt jm.Y));(try(have Ad:=ae (jw.Y.ah m);have VX:=λi=>ag.cell Ad.Y i;have O:=λi=>ag.free Ad.Y i;have a6:=ag.lt Ad.Y));(try(have jm:=ae (Sf.Y.ah m);have K:=λi=>ag.cell jm.Y i;have Sp:=λi=>ag.free jm.Y i;have fE:=ag.lt jm.Y));(try(have Ad:=ae (gN.Y.ah m);have VX:=λi=>ag.cell Ad.Y i;have O:=λi=>ag.free Ad.Y i;have a6:=ag.lt Ad.Y));clear hP))
  .go_wp2;go_meet;have hz:=(Ext.Y xx).size;refine⟨_,_,B2,e2,A4,m4,D,dd,rfl,rfl,rfl,rfl,?_,?_,Bh.Y _ (by assumption),Hf.Y _ (by assumption),?_,ah br.Y (Ext.Y (by assumption)),by omega,by omega,by omega⟩
   .exact(ag.new _ _ _).alloc _
   .exact ag.newAt _ _ _ aA
   .exact(HP.bL (base':=w.heap.size) (by simp;omega)).more (aj (aj (ai _) _) _)
  .go_wp2;go_meet;have hz:=(Ext.Y xx).size;refine⟨_,_,B2,e2,A4,m4,D,dd,rfl,rfl,rfl,rfl,?_,?_,Bh.Y _ (by assumption),Hf.Y _ (by assumption),?_,ah br.Y (Ext.Y (by assumption)),by omega,by omega,by omega⟩
   .exact ag.newAt _ _ _ aA
   .exact(ag.new _ _ _).alloc _
   .exact(HP.bL (base':=w.heap.size) (by simp;omega)).more (aj (aj (ai _) _) _)
  .go_wp2;go_meet;have hz:=(Ext.Y xx).size;have hT:=o7.one (v1:=[.int .i64 G.c.gen,.int .i64 G.c.cap,.bool G.c.used,.bool G.c.closed,.slice B2 G.c.buf.length e2]) jm rfl;refine⟨_,_,B2,e2,A4,m4,D,dd,rfl,rfl,rfl,rfl,?_,?_,Bh.Y _ (by assumption),Hf.Y _ (by assumption),?_,ah br.Y (Ext.Y (by assumption)),by omega,by omega,by omega⟩
   .exact hT.2.alloc _
   .exact ag.newAt _ _ _ aA
   .exact((HP.bL (base':=w.heap.size) ui).one hT.1).more (aj (ai _) _)
  .exact WG
  .go_wp2;go_meet;have hz:=(Ext.Y xx).size;have hT:=o7.one (v1:=[.int .i64 G.r.seq,.int .i64 G.r.cs,.int .i64 G.r.code,.int .i64 G.r.value]) Ad rfl;refine⟨_,_,B2,e2,A4,m4,D,dd,rfl,rfl,rfl,rfl,?_,?_,Bh.Y _ (by assumption),Hf.Y _ (by assumption),?_,ah br.Y (Ext.Y (by assumption)),by omega,by omega,by omega⟩
   .exact ag.newAt _ _ _ aA
   .exact hT.2.alloc _
   .exact((HP.bL (base':=w.heap.size) ui).ac1 hT.1).more (aj (ai _) _)
  .exact WG
 case rest =>
  obtain⟨p,q,B2,d2,A4,m4,D,dd,rfl,rfl,rfl,rfl,(HC:Hid _),hR,hV,hQ,hP,hB,hp,hq,cv⟩:=hcut;obtain⟨HR,s,HQ,HP,HB,uF⟩:=cS hR hV hQ hP (hB.mono cG) hB;have L:g≠o:=hV.yK;have Ac:o≠g:=λe=>L e.symm;clear hR hV hQ hP hB lX gD br eZ nj X jC N F u I z;obtain⟨ad,B9,d9,P,_,_,N,F,u,I,z⟩:=lV.row s.xv HX;injection P with P
  subst P;have f0:=s.chans.bq (i*5);have f1:=s.chans.bq (i*5+1);have f2:=s.chans.bq (i*5+2);have f3:=s.chans.bq (i*5+3);have f4:=s.chans.bq (i*5+4);rw[lU,Nat.zero_add]at N F u I z;dsimp only at F u I z;have K:=λi=>ag.cell HC i;obtain⟨E,R,-⟩:=ag.aF (dx.blk s);have eH:=ag.lt (dx.blk s);unfold qb at E;go_wp2;go_region;have J:=s.got uv HP He.len cG;have VV:=aX (aX HQ (b:=w.heap.size+1) (g:=o) aa [G.c.gen,G.c.cap,G.c.used,G.c.closed,.slice B2 G.c.buf.length d2] (i*5)) (g:=g) aa [.slice A4 h.waits.length m4] 2;have Za:=aX (aX HR (b:=q) (g:=o) aa [G.c.gen,G.c.cap,G.c.used,G.c.closed,.slice B2 G.c.buf.length d2] (i*5)) (g:=g) aa [.slice A4 h.waits.length m4] 2;have JU:Below base w (ax (ax wc o (i*5) [G.c.gen,G.c.cap,G.c.used,G.c.closed,.slice B2 G.c.buf.length d2]) g 2 [.slice A4 h.waits.length m4]):=az s.low _ _ _ (az bz _ _ _ HB);have oc:Hid (gu w g (.slice o h.chans.length m1) (.slice A3 h.done.length m3) (ax (ax wc o (i*5) [G.c.gen,G.c.cap,G.c.used,G.c.closed,.slice B2 G.c.buf.length d2]) g 2 [.slice A4 h.waits.length m4]).drew):=(((gu.ext uF).GU (q:=o) rfl (i*5) [G.c.gen,G.c.cap,G.c.used,G.c.closed,.slice B2 G.c.buf.length d2]).Co _ _).drew;have S:=(ai (ax (ax wc o (i*5) [G.c.gen,G.c.cap,G.c.used,G.c.closed,.slice B2 G.c.buf.length d2]) g 2 [.slice A4 h.waits.length m4])).drew;obtain⟨nu,iA,W,lz,M,iq⟩:=cS (J.1.more S) (J.2.1.below S) (λb h1 h2=>(J.2.2 b h1 h2).below S) (VV.ah S) (Za.ah S) JU.drew;clear J VV Za JU S N F u I z f0 f1 f2 f3 f4 E R K eH HC HR s HQ HP HB;change Exit.then _ _ _ _ (ax (ax wc o (i*5) [G.c.gen,G.c.cap,G.c.used,G.c.closed,.slice B2 G.c.buf.length d2]) g 2 [.slice A4 h.waits.length m4]).drew;generalize(ax (ax wc o (i*5) [G.c.gen,G.c.cap,G.c.used,G.c.closed,.slice B2 G.c.buf.length d2]) g 2 [.slice A4 h.waits.length m4]).drew=w5 at *;go_wp2_with fail;go_fit (Hb _ nu D dd G.told rfl (bm He.told (bm Cu af)) iA W (λx j=>by rw[jf.Y];exact He.th x j) Qr);rintro e U ⟨rfl,(sO:Hid _),Jq,pV⟩;obtain⟨xb,fh⟩:=av (oc.tell (by have:=lz.lt;omega) pV (yD _ _ _ _ _)) (iq.trans Jq);have j7:Hid (∀b,(Value.slice A3 (fN h.done G.told).length m3).ownBlock=some b->b<w.heap.size):=by unfold Hid;rw[ld];exact qj.2.2.2
  have ku:Hid (ag U (w.heap.size+1) 64 #[oZ,oZ,oZ,oZ]):=(pV (w.heap.size+1) lz.lt (λhe=>absurd (j7 _ he.symm) aa)).trans lz;have WH:Hid (ag U q 64 #[G.r.seq,G.r.cs,G.r.code,G.r.value]):=(pV q M.lt (λhe=>absurd (j7 _ he.symm) aa)).trans M;clear Jq pV nu lz M iq iA W;obtain⟨gB,nQ,-⟩:=ag.aF WH;have b5:=ag.lt WH;obtain⟨bN,cj,-⟩:=ag.aF ku;have cu:=ag.lt ku;obtain⟨E,R,-⟩:=ag.aF (dx.blk sO);have eH:=ag.lt (dx.blk sO);unfold qb at E;clear R;go_wp2_with fail;obtain⟨bE,V⟩:=av (dx.yJ sO WH af af af af af (λb C=>Nat.ne_of_lt (bW (j7 b C) aa)) 1 [r]) (aX ku (b:=w.heap.size+1) (g:=q) aa [r] 1);have nJ:Hid (Below base w (ax U q 1 [r])):=az aa _ _ _ fh;have Ec:=ae (λb C=>Nat.ne_of_lt (Nat.lt_succ_of_lt (j7 b C)));clear gB nQ b5;have iB:=aY (vs:=[G.r.seq,r,G.r.code,G.r.value]) V rfl;have Aj:=dx.yJ bE V af af af af af Ec 0 [G.r.seq,r,G.r.code,G.r.value];have kN:Below base w (ax (ax U q 1 [r]) (w.heap.size+1) 0 [G.r.seq,r,G.r.code,G.r.value]):=az (Nat.le_succ_of_le cG) _ _ _ nJ;change bodyPost _ _ _ _ _ (ax (ax U q 1 [r]) (w.heap.size+1) 0 [G.r.seq,r,G.r.code,G.r.value]);have Ak:=uf.Y _ ((xb.new (q:=q) aa 1 [r]).new (q:=(w.heap.size+1)) aa 0 [G.r.seq,r,G.r.code,G.r.value]);clear bN cj cu E eH;generalize ax (ax U q 1 [r]) (w.heap.size+1) 0 [G.r.seq,r,G.r.code,G.r.value]=wz at *;have fy:=λi=>ag.cell iB i;refine bodyPost_ret (v:=.agg #[G.r.seq,r,G.r.code,G.r.value]) ?_ rfl ?_
  .simp[results,results271,go_sem,fy]
  .exact Ma
theorem vp(f:cs≠[])(r:cs.length<=3)(l:∀k∈cs,Mo.kV k=true):ed h cs=if(cs.any λk=>(bP h k.2.1).isNone)=true then 8 else 0:=by unfold ed;rw[au (by rintro(e|e);exact f (List.length_eq_zero_iff.1 e);omega),au];intro e;obtain⟨k,a,e⟩:=List.any_eq_true.1 e;have:=jH.1 (l k a);simp only[Bool.or_eq_true,eT,bne_iff_ne,eI]at e;omega
theorem Qt(l:cs.length<=3)(s:∀k∈cs,Mo.kV k=true)(f:cs[j]?=some z)(r:bP h z.2.1=none):ed h cs=8:=by rw[vp (by rintro rfl;cases f) l s,ay];exact List.any_eq_true.2 ⟨z,cH f,by rw[r];rfl⟩
theorem Qu(f:cs≠[])(l:cs.length<=3)(s:∀k∈cs,Mo.kV k=true)(r:∀(j:Nat) (z:Cs),j<cs.length->cs[j]?=some z->(bP h z.2.1).isSome=true):ed h cs=0:=by rw[vp f l s,au];intro e;obtain⟨k,c,e⟩:=List.any_eq_true.1 e;obtain⟨j,a,d⟩:=List.mem_iff_getElem.1 c;have:=r j k a (by rw[cq a,d]);cases b:bP h k.2.1<;>rw[b]at e this<;>simp at e this
theorem Mf(w:World)(H:C4 w base g c A n k t sq h A1 A2 A3 m1 m2 m3)(l:List Cs)(D:Option Addr)(f qd:Nat)(qf:f=l.length)(hr:cN w bj D l)(Z:∀k∈l,Mo.kV k=true)(X:l.length<=3) :
 Calls prog 269 #[.pointer g,.slice D f qd] w (JC (ed h l) w):=by
 have B8:g<w.heap.size:=H.blk.lt
 obtain⟨mf,HV,R,J,v,P⟩:=cS (λd (u9:Below w w d) hd=>oM d h.ak A1 m1 h.chans rfl ((H.more u9).xv) (.slice A2 h.waits.length m2) (.slice A3 h.done.length m3) h.waits h.done hd) H hr Z qf X
 have uD:f<=3:=aa
 clear H hr Z qf X
 by_cases r:l=[]
 .have T:f=0:=by have:=v.Y;rw[r]at this;exact this
  subst T;have I:Hid (ed h l=1):=by unfold Hid;rw[r];rfl
  clear r mf;go_enter func269,ntmps269;go_wp2;go_ret;exact⟨jO I.symm,ai w⟩
 .have Nk:0<f:=by have:=v.Y;have:=List.length_pos_iff.2 r;omega
  have T:((f:Int)==0)=false:=by simp;omega
  have H0:=ae r;clear r;go_enter func269,ntmps269;go_wp2;go_loopw[21] (λi wr=>∃j:Nat,j<=f/\i=j/\Hid (Below w w wr)) (λi _=>f-(intOf i).toNat);case atStart=>exact⟨0,aZ _,rfl,ai w⟩
  case round =>
   obtain⟨j,Y,rfl,b⟩:=hrel;by_cases p:j<f
   .obtain⟨ad,z,L,hz,hcell⟩:=cN.at_ cM af (R.below b) (i:=j) (by rw[<-v.Y];exact p);have q:=jH.1 (J z (cH hz));have x:=hcell 0 _ rfl;have y:=hcell 1 _ rfl;have B:=hcell 2 _ rfl;simp only[add_zero]at x;rw[add_lit _ _ af]at y B;subst L;obtain⟨z0,z1,O⟩:=z;dsimp only at x y B q;have v0:¬O<0:=aa;have v1:¬(4294967295:Int)<O:=aa;clear hcell hz;have m:=ae (aj b (.cells #[z0,z1,O] 101));rcases q.1 with V|V
    all_goals
     subst V;clear q;go_wp2;go_roundw;case rel=>exact⟨j+1,aa,by go_num,m⟩
     case measure=>simp[intOf];omega
   .skip;go_wp2;go_loopw[46] (λi wr=>∃j:Nat,j<=f/\i=j/\Hid (Below w w wr)/\Hid (∀(i:Nat) (z:Cs),i<j->l[i]?=some z->(bP h z.2.1).isSome=true)) (λi _=>f-(intOf i).toNat);case atStart=>exact⟨0,aZ _,rfl,b,λi z h=>absurd h (Nat.not_lt_zero _)⟩
    case round =>
     clear Y b;obtain⟨j,Y,rfl,b,Q⟩:=hrel;by_cases p:j<f
     .obtain⟨ad,z,L,(S:Hid _),hcell⟩:=cN.at_ cM af (R.below b) (i:=j) (by rw[<-v.Y];exact p);have x:=hcell 0 _ rfl;have y:=hcell 1 _ rfl;have B:=hcell 2 _ rfl;simp only[add_zero]at x;rw[add_lit _ _ af]at y B;subst L;have m:=ae (aj b (.cells #[z.1,z.2.1,z.2.2] 101));have u:Hid (ag (wr.alloc (.cells #[z.1,z.2.1,z.2.2] 101)) wr 101 #[z.1,z.2.1,z.2.2]):=ag.new _ _ _;have aq:=b.size;clear hcell;go_wp2_with fail;generalize(wr.alloc (.cells #[z.1,z.2.1,z.2.2] 101))=F at *;have G:=ae (λd (E:Ext F d)=>mf d (ah m E.Y) z.2.1);have K:=λd (E:Ext F d) i=>ag.cell (dx.blk (HV.more (ah m E.Y))) i;have U:=λd (E:Ext F d) i=>ag.cell (u.ah E.Y) i;unfold qb at K;have TJ:=ltW m B8;have Qv:=u.lt;have W:bP ⟨h.ak,h.chans,h.waits,h.done⟩ z.2.1=bP h z.2.1:=rfl;rw[W]at G;clear W x y B;rcases s:bP h z.2.1 with _|i
      .rw[s]at G;have I:Hid (ed h l=8):=Qt P J S s;clear s;go_region_held3(Ext F) (with_reducible(first|assumption|exact Ext.start _)) (((with_reducible go_fit (G.Y _ (by assumption)));rintro e w1 ⟨rfl,a⟩;have C:=Ext.to (by assumption) a));have N:=ae C;clear C a K U;go_wp2;go_ret;exact⟨jO I.symm,ah m N.Y⟩
      .rw[s]at G;have HS:Hid ((bP h z.2.1).isSome=true):=by unfold Hid;rw[s];rfl
       clear s;go_region_held3(Ext F) (with_reducible(first|assumption|exact Ext.start _)) (((with_reducible go_fit (G.Y _ (by assumption)));rintro e w1 ⟨rfl,a⟩;have C:=Ext.to (by assumption) a));have N:=ae C;clear C a K U;go_wp2;go_roundw;case rel=>exact⟨j+1,aa,by go_num,ah m N.Y,λM z' h1 o=>by
        by_cases e:M<j
        .exact Q.Y M z' e o
        .have:M=j:=aa;subst this;rw[S.Y]at o;injection o with o
         subst o;exact HS.Y⟩
       case measure=>simp[intOf];omega
     .go_wp2;go_ret;exact⟨jO (Qu H0 P J (λi z h1 o=>Q i z (by have:=v.Y;omega) o)).symm,b⟩
theorem UB(w:World)(A:Option Addr)(c:Nat)(l:List Wt)(C:n=l.length)(I:n<=100000)(r:ez w A l)(G:∀x∈l,x.cases.length<=100000)(f:l[j]?=some x)(H:x.on=true)(F E:Int)(D:Option Addr)(y s:Nat) :
 Calls prog 272 #[.slice A n c,j,.agg #[false,F,E,.slice D y s]] w λe w'=>∃v,e=.returned (.tuple #[v,false])/\Below w w w':=by
 obtain⟨h,B⟩:=av (jo (w.alloc (.cells #[false,F,E,.slice D y s] 99)) A c l C I (r.gK aI (aj (ai w) _)) G) f
 have q:j<n:=by rw[C];exact bT f
 obtain⟨d,i⟩:=av (λw'=>BZ w' A n c j aa) (λw' (p:Below w w w')=>ez.row (r.gK aI p) f)
 obtain⟨k,_,_,a,_⟩:=ez.row r f
 subst a
 have m:Hid (Below w w (w.alloc (.cells #[false,F,E,.slice D y s] 99))):=aj (ai w) _
 clear C r G f
 go_enter func272,ntmps272
 go_wp2_with fail
 refine h.mono ?_
 rintro e u ⟨v,rfl,z,K,rfl,o,b⟩
 have g:=ae (ah m b)
 clear o b h
 go_wp2_with fail
 go_fit (d _)
 rintro e L ⟨rfl,rfl⟩
 obtain⟨J,_,_,a,_,_,t,_⟩:=i.Y u g
 injection a with a
 subst a
 rw[H]at t
 clear H
 go_wp2
 go_ret2
 exact⟨_,rfl,g⟩
theorem Mg(w:World)(x:Ch)(B:Option Addr)(s d:Nat)(r:s=x.buf.length)(H:x.used=true)(A:Option Addr)(c:Nat)(l:List Wt)(F:n=l.length)(E:n<=100000)(G:ez w A l)(C:∀x∈l,x.cases.length<=100000)(y f:Int)(I:f=1\/f=2) :
 Calls prog 270 #[.agg #[x.gen,x.cap,x.used,x.closed,.slice B s d],y,.slice A n c,f] w λe w'=>e=.returned (cX x y l f)/\Below w w w':=by
 rcases I with rfl|rfl
 .exact yx w x B s d r H A c l F E G C y
 .exact yz w x B s d r H A c l F E G C y
def Es(h:Hl)(f:List Cs)(j:Nat):Prop:=∀(i:Nat) (z:Cs),i<j->f[i]?=some z->cX (fO h ((bP h z.2.1).getD 0)) z.2.1 h.waits z.1=false
theorem Es.next(f:Es h cs j)(r:cs[j]?=some z)(l:cX (fO h ((bP h z.2.1).getD 0)) z.2.1 h.waits z.1=false):Es h cs (j+1):=λi y b a=>by
 by_cases e:i<j
 .exact f i y e a
 .have:i=j:=aa;subst this;rw[r]at a;injection a with a
  subst a;exact l
theorem Bi(f:ed h cs=0){k:Cs}(l:k∈cs):∃i,bP h k.2.1=some i:=by
 unfold ed at f;split at f
 .cases f
 .split at f
  .cases f
  .split at f
   .cases f
   .rename_i a;cases e:bP h k.2.1 with
    |some i=>exact⟨i,rfl⟩
    |none=>exact absurd (List.any_eq_true.2 ⟨k,l,by rw[e];rfl⟩) a
theorem yL{q:Rq}(r:ed h q.cases=0)(l:Es h q.cases j)(f:q.cases[j]?=some z)(s:cX (fO h ((bP h z.2.1).getD 0)) z.2.1 h.waits z.1=true):cQ h t seq q=wO h j z:=by
 unfold cQ;rw[au (by rw[r];decide)];have:q.cases.findIdx? (λk=>cX (fO h ((bP h k.2.1).getD 0)) k.2.1 h.waits k.1)=some j:=by
  have a:=bT f;rw[List.findIdx?_eq_some_iff_getElem];have e:q.cases[j]=z:=by rw[cq a]at f;injection f
  refine⟨a,by rw[e];exact s,λi b=>?_⟩;have:=l i _ b (cq aa);simpa using this
 rw[this];dsimp only;rw[ew,f];rfl
theorem wm{q:Rq}(r:ed h q.cases=0)(f:Es h q.cases q.cases.length):cQ h t seq q=if q.dflt=true then(h,bg 10)else if 4294967295<=h.ak then(h,bg 7)else match zR h.waits t ⟨false,h.ak,seq,q.cases⟩with|none=>(h,bg 13)|some l=>({h with waits:=l,ak:=h.ak+1},bg 14):=by
 unfold cQ;rw[au (by rw[r];decide)];have:q.cases.findIdx? (λk=>cX (fO h ((bP h k.2.1).getD 0)) k.2.1 h.waits k.1)=none:=by rw[List.findIdx?_eq_none_iff];intro x b;obtain⟨i,a,e⟩:=List.mem_iff_getElem.1 b;have:=f i x a (by rw[cq a,e]);exact this
 rw[this];rfl
theorem dx.WJ(H:dx w base g T tl h A1 A2 A3 m1 m2 m3){f:List Wt}(r:j6 w base (.slice A4 f.length m4) f)(l:Int) :
 dx ((ax w g 2 [.slice A4 f.length m4]).setCell ⟨g,0,none⟩ l) base g T tl {h with waits:=f,ak:=l} A1 A4 A3 m1 m4 m3:=by
 have c:=H.JS r
 have d:=c.blk
 have m:∀b,eP (ax w g 2 [.slice A4 f.length m4]) b->b≠g:=λb a k=>by subst k;exact eP.not d H.ty.1 H.ty.2.1 a
 have e:Sm (eP (ax w g 2 [.slice A4 f.length m4])) (ax w g 2 [.slice A4 f.length m4]) ((ax w g 2 [.slice A4 f.length m4]).setCell ⟨g,0,none⟩ l):=λb a=>dE _ _ _ _ (m b a)
 refine⟨d.bp 0 _,?_,?_,bu c.done d H.ty.2.2.2.2.1 0 _,c.low,H.ty⟩
 .exact(aD.move cd c.chans e (λi j=>dE _ _ _ _ (aD.other c.chans d H.ty.2.2.1 i j))).mono cd λb a=>a.bp _ _
 .exact(aD.move aI c.waits e (λi j=>dE _ _ _ _ (aD.other c.waits d H.ty.2.2.2.1 i j))).mono aI λb a=>a.bp _ _
theorem gu.trans(h:gu w g v1 v3 w1)(r:w.heap.size<=w1.heap.size)(l:gu w1 g v1 v3 w2):gu w g v1 v3 w2:=λb e a c d=>(l b aa a c d).trans (h b e a c d)
theorem HvE.pass{p:Hl×Rs}{e:Ending}{f:Option Addr}{r:Nat}(C:HvE base g T tl A1 A3 m1 m3 p w1 e w2)(H:dx w base g T tl h A1 A2 A3 m1 m2 m3)(y:dx w1 base g T tl h A1 f A3 m1 r m3)(l:Below w w w1)(F:w.heap.size<=q){c1:List Value}(s:ag w1 q 64 c1.toArray)(E:c1.length=4) :
 ag w2 q 64 c1.toArray/\HvE base g T tl A1 A3 m1 m3 p w (.returned (.agg #[p.2.seq,p.2.cs,p.2.code,p.2.value])) (ax w2 q 0 [p.2.seq,p.2.cs,p.2.code,p.2.value]) /\
 ag (ax w2 q 0 [p.2.seq,p.2.cs,p.2.code,p.2.value]) q 64 #[p.2.seq,p.2.cs,p.2.code,p.2.value]:=by
 obtain⟨_,⟨k,t,j⟩,a,o⟩:=C
 have c:=H.nY
 have m:base<=w.heap.size:=bm H.low (Nat.le_of_lt H.blk.lt)
 have hF:=y.frX o
 have d:q≠g:=by have:=c.1;omega
 have i:ag w2 q 64 c1.toArray:=(hF q s.lt d (λh=>by have:=c.2.1 q h;omega) (λh=>by have:=c.2.2.2 q h;omega)).trans s
 refine⟨i,⟨rfl,⟨k,t,j.yJ i af af j.ty.2.2.2.2.1 af af (λb a n=>?_) 0 _⟩,az aa _ _ _ ((l.mono m).trans a),H.PQ _ (((gu.ext l).trans l.size hF).new F 0 _)⟩,aY i E⟩
 subst n
 rw[yD A3 _ _ h.done.length m3]at a
 have:=c.2.2.2 _ a
 omega
theorem Hi(w:World)(H:C4 w base g c A n k t sq h A1 A2 A3 m1 m2 m3)(hb:GN h)(q:Rq)(D:Option Addr)(C O:Nat)(qf:C=q.cases.length)(hr:cN w bj D q.cases)(hq:Mo.bt q=true)(fF:h.done.length=h.waits.length)(uy:0<=t)(vN:t<h.waits.length)(uw:0<=h.ak/\h.ak<=4294967295) :
 Calls prog 260 #[.pointer g,.agg #[q.kind,q.arg,q.value,q.dflt,.slice D C O]] w (Ua base g c A n k t sq A1 A3 m1 m3 (cQ h t sq q) w):=by
 have E:=gY.1 hq
 obtain⟨HM,H3⟩:=av E.2.2.2.2 E.2.2.2.1
 clear E hq
 have bJ:Hid (Below w w ((w.alloc (lQ q D C O)).alloc ke)):=aj (aj (ai w) _) _
 have eW:Hid (ag ((w.alloc (lQ q D C O)).alloc ke) w 38 #[q.kind,q.arg,q.value,q.dflt,.slice D C O]):=(ag.new _ _ _).alloc _
 have gC:Hid (ag ((w.alloc (lQ q D C O)).alloc ke) (w.heap.size+1) 64 #[oZ,oZ,oZ,oZ]):=(ag.newAt _ _ _ aA)
 obtain⟨oo,qj⟩:=av (H.more bJ) H.nY
 have U:base<=w.heap.size:=bm H.low (Nat.le_of_lt H.blk.lt)
 have B8:g<w.heap.size:=H.blk.lt
 obtain⟨aq,HR,HN,jf,HH,wZ⟩:=cS (Mf ((w.alloc (lQ q D C O)).alloc ke) oo q.cases D C O qf (hr.below bJ) HM H3) hr qf fF hb H
 obtain⟨uf,kM⟩:=av H.PQ vN
 have oJ:((w.alloc (lQ q D C O)).alloc ke).heap.size=w.heap.size+1+1:=aA
 obtain⟨w0,ct⟩:=aw ((w.alloc (lQ q D C O)).alloc ke)
 have uD:C<=3:=by have:=H3.Y;omega
 clear H hb hr qf fF vN
 go_enter func260,ntmps260
 go_wp2_with fail
 rw[<-ct]at bJ eW gC oo oJ aq ⊢
 have G:=λi=>ag.cell eW i
 have I:=ag.lt eW
 clear ct
 go_wp2_with fail
 refine aq.mono ?_
 rintro e Y ⟨rfl,m⟩
 obtain⟨br,lX,gD,eZ⟩:=bh (ah bJ m) (oo.more m) (gC.ah m) (eW.ah m)
 have DS:w.heap.size+1<Y.heap.size:=gD.lt
 clear m bJ oo gC eW aq G I oJ
 by_cases Q:ed h q.cases=0
 .have HE:=ae Q;rw[Q];clear Q;have r:=λi=>ag.cell eZ i;obtain⟨S,Hf⟩:=av (λa (f:Ext Y a)=>lX.more f.Y) (λa (f:Ext Y a)=>gD.ah f.Y);have mf:=ae (λa (f:Ext Y a) hd=>oM a h.ak A1 m1 h.chans rfl ((S a f).xv) (.slice A2 h.waits.length m2) (.slice A3 h.done.length m3) h.waits h.done hd);go_wp2_with fail;clear r;go_loopw[23] (λi wr=>∃j:Nat,j<=C/\i=j/\Hid (Ext Y wr)/\Hid (Es h q.cases j)) (λi _=>C-(intOf i).toNat);case atStart=>exact⟨0,aZ _,rfl,ai Y,λi z h=>absurd h (Nat.not_lt_zero _)⟩
  case round =>
   obtain⟨j,hj,rfl,Mh,KS⟩:=hrel;by_cases cy:j<C
   .obtain⟨ad,z,hA,hz,hcell⟩:=cN.at_ cM af (HR.below (ah br Mh)) (i:=j) (by rw[<-HN.Y];exact cy);have qc:z.1=1\/z.1=2:=(jH.1 (HM z (bo hz))).1;have c0:=hcell 0 _ rfl;have c1:=hcell 1 _ rfl;have c2:=hcell 2 _ rfl;simp only[add_zero]at c0;rw[add_lit _ _ af]at c1 c2;subst hA;obtain⟨i,a7⟩:=Bi HE (bo hz);obtain⟨x,f,hu,b7⟩:=lg a7;clear b7;have b5:fO h i=x:=by unfold fO;rw[ew,f];rfl
    obtain⟨HZ,HD,T,HX,Mi,Sq⟩:=cS hz qc a7 f b5 (Ext.alloc Mh (.cells #[z.1,z.2.1,z.2.2] 101));have Nv:Hid (ag (wr.alloc (.cells #[z.1,z.2.1,z.2.2] 101)) wr 101 #[z.1,z.2.1,z.2.2]):=ag.new _ _ _;have df:=Mh.size;have uv:i<h.chans.length:=bT f;clear hcell hz qc a7 b5;go_wp2_with fail;generalize(wr.alloc (.cells #[z.1,z.2.1,z.2.2] 101))=w9 at *;have zH:=ae (λa (f:Ext w9 a)=>mf a (Sq.to f.Y) z.2.1);have o:=λa (f:Ext w9 a) i=>ag.cell (dx.blk (S a (Sq.to f.Y))) i;have r:=λa (f:Ext w9 a) i=>ag.cell (Nv.ah f.Y) i;unfold qb at o;have TJ:g<w9.heap.size:=by have:=Sq.size;omega
    have Qv:=Nv.lt;have e9:bP ⟨h.ak,h.chans,h.waits,h.done⟩ z.2.1=some i:=T.Y;rw[e9]at zH;clear e9 c0 c1 c2;go_region_held3(Ext w9) (with_reducible(first|assumption|exact Ext.start _)) (((with_reducible go_fit (zH.Y _ (by assumption)));rintro e M ⟨rfl,m⟩;have s:=Ext.to (by assumption) m));obtain⟨Et,K⟩:=av (Sq.to s.Y) (Nv.ah s.Y);have cF:=s.Y.size;clear s m o r Sq Nv zH;obtain⟨cD,B,d,hA,Eh,kB,c0,c1,c2,c3,c4⟩:=lV.row (S _ Et).xv f;subst hA;obtain⟨bl,a6⟩:=aw x.buf.length;have UC:=ae (λa (R:Ext M a)=>Mg a x B bl d a6 hu A2 m2 h.waits rfl (bm HH.waits af) (S a (Et.to R.Y)).GP (λy R=>bm (HH.cases y R) af) z.2.1 z.1 HD);rw[<-a6]at c4;rw[hu]at c2 UC;have i1:(0:Int)<=(i:Int):=aa;have i2:(i:Int)<(h.chans.length:Int):=aa;clear f a6 Eh kB hu;go_wp2_with fail;have o:=λa (f:Ext M a) i=>ag.cell (dx.blk (S a (Et.to f.Y))) i;have r:=λa (f:Ext M a) i=>ag.cell (K.ah f.Y) i;unfold qb at o;have d0:=λa (f:Ext M a)=>f.cell c0;have d1:=λa (f:Ext M a)=>f.cell c1;have d2:=λa (f:Ext M a)=>f.cell c2;have d3:=λa (f:Ext M a)=>f.cell c3;have d4:=λa (f:Ext M a)=>f.cell c4;have cO:g<M.heap.size:=aa;have cR:=K.lt;clear c0 c1 c2 c3 c4;rcases kB:cX x z.2.1 h.waits z.1 with _|_
    .rw[kB]at UC;have jC:Hid (cX (fO h ((bP h z.2.1).getD 0)) z.2.1 h.waits z.1=false):=by unfold Hid;rw[T.Y];dsimp only[Option.getD_some];rw[Mi.Y];exact kB
     clear kB;go_region_held3(Ext M) (with_reducible(first|assumption|exact Ext.start _)) (((with_reducible go_fit (UC.Y _ (by assumption)));rintro e yM ⟨rfl,m⟩;have s:=Ext.to (by assumption) m));have Mj:=ae (Et.to s.Y);clear s m o r d0 d1 d2 d3 d4;go_wp2;go_roundw;case rel=>exact⟨j+1,aa,by go_num,Mj,KS.next HZ jC⟩
     case measure=>simp[intOf];omega
    .rw[kB]at UC;have jC:Hid (cX (fO h i) z.2.1 h.waits z.1=true):=by unfold Hid;rw[Mi.Y];exact kB
     have HG:Hid (cQ h t sq q=wO h j z):=yL HE KS HZ (by rw[T.Y];dsimp only[Option.getD_some];exact jC.Y);clear kB;go_region_held3(Ext M) (with_reducible(first|assumption|exact Ext.start _)) (((with_reducible go_fit (UC.Y _ (by assumption)));rintro e yM ⟨rfl,m⟩;have s:=Ext.to (by assumption) m));obtain⟨Mj,Zb⟩:=av (Et.to s.Y) (K.ah s.Y);clear s m o r d0 d1 d2 d3 d4;obtain⟨r,-,GG⟩:=ag.aF Zb;go_wp2_with fail;have b6:h.done≠[]:=by have:=jf.Y;intro e;rw[e]at this;simp at this;have:=kM.Y;omega
     go_fit (Qs _ (S _ Mj) HH j z HD jf b6 T jC);rintro e Qw hE;have HP:=ae (hE.pass wZ (S _ Mj) (ah br Mj) (q:=w.heap.size+1) (bM _) (c1:=[oZ,oZ,oZ,oZ]) (Hf _ Mj) rfl);have Q:e=_:=hE.1;rw[<-HG.Y]at HP Q;obtain⟨pp,Al⟩:=aw (cQ h t sq q);rw[<-Al]at HP Q;have cw:=ae Al;clear Al;subst Q;clear hE r GG b6;obtain⟨G,E,-⟩:=ag.aF HP.1;have I:=ag.lt HP.1;go_wp2_with fail;have fy:=λi=>ag.cell HP.2.2 i;change bodyPost _ _ _ _ _ (ax Qw (w.heap.size+1) 0 [pp.2.seq,pp.2.cs,pp.2.code,pp.2.value]);clear G E I;have Nw:=ae HP.2.1;generalize ax Qw (w.heap.size+1) 0 [pp.2.seq,pp.2.cs,pp.2.code,pp.2.value]=wz at *;refine bodyPost_ret (v:=.agg #[pp.2.seq,pp.2.cs,pp.2.code,pp.2.value]) ?_ rfl (by rw[<-cw.Y];exact Nw.Y);exact mk5
   .have vq:Hid (Es h q.cases q.cases.length):=by
     have:=HN.Y;have:j=q.cases.length:=aa;unfold Hid;rw[<-this];exact KS.Y
    obtain⟨HC,L,u,xc,N⟩:=bQ (wm (t:=t) (seq:=sq) HE vq) (S _ Mh) (Hf _ Mh) (eZ.ah Mh) (ah br Mh)
    have Jx:=ae (N.mono U)
    obtain⟨r,-,GG⟩:=ag.aF xc
    obtain⟨G,E,-⟩:=ag.aF u
    have I:=ag.lt u
    obtain⟨o,F,-⟩:=ag.aF (dx.blk L)
    have P:=ag.lt (dx.blk L)
    unfold qb at o
    clear KS S Hf mf F
    cases J:q.dflt with
    |true =>
     rw[J]at r;have HG:Hid (cQ h t sq q=(h,bg 10)):=by unfold Hid;rw[HC.Y,ay J]
     clear J;go_wp2_with fail;clear r GG;have V:=aY (vs:=[oZ,oZ,.int .i64 10,oZ]) u rfl;have Aj:=dx.b9 L qj (bM _) u af af 0 [oZ,oZ,.int .i64 10,oZ];have kN:Below base w (ax wr (w.heap.size+1) 0 [oZ,oZ,.int .i64 10,oZ]):=az (Nat.le_succ_of_le U) _ _ _ Jx;change bodyPost _ _ _ _ _ (ax wr (w.heap.size+1) 0 [oZ,oZ,.int .i64 10,oZ]);have Ak:=uf.Y _ ((gu.ext N).new (q:=(w.heap.size+1)) aa 0 [oZ,oZ,.int .i64 10,oZ]);clear G E I o P;generalize ax wr (w.heap.size+1) 0 [oZ,oZ,.int .i64 10,oZ]=wz at *;have fy:=λi=>ag.cell V i;refine bodyPost_ret (v:=.agg #[oZ,oZ,.int .i64 10,oZ]) ?_ rfl ?_
     .exact mk5
     .exact Ma
    |false =>
     rw[J]at r;have jm:Hid (cQ h t sq q=if 4294967295<=h.ak then(h,bg 7)else match zR h.waits t ⟨false,h.ak,sq,q.cases⟩with|none=>(h,bg 13)|some l=>({h with waits:=l,ak:=h.ak+1},bg 14)):=by unfold Hid;rw[HC.Y,au (by rw[J];decide)]
     clear J;by_cases b8:4294967295<=h.ak
     .have HG:Hid (cQ h t sq q=(h,bg 7)):=by unfold Hid;rw[jm.Y,ay b8]
      go_wp2_with fail;clear r GG;have V:=aY (vs:=[oZ,oZ,.int .i64 7,oZ]) u rfl;have Aj:=dx.b9 L qj (bM _) u af af 0 [oZ,oZ,.int .i64 7,oZ];have kN:Below base w (ax wr (w.heap.size+1) 0 [oZ,oZ,.int .i64 7,oZ]):=az (Nat.le_succ_of_le U) _ _ _ Jx;change bodyPost _ _ _ _ _ (ax wr (w.heap.size+1) 0 [oZ,oZ,.int .i64 7,oZ]);have Ak:=uf.Y _ ((gu.ext N).new (q:=(w.heap.size+1)) aa 0 [oZ,oZ,.int .i64 7,oZ]);clear G E I o P;generalize ax wr (w.heap.size+1) 0 [oZ,oZ,.int .i64 7,oZ]=wz at *;have fy:=λi=>ag.cell V i;refine bodyPost_ret (v:=.agg #[oZ,oZ,.int .i64 7,oZ]) ?_ rfl ?_
      .exact mk5
      .exact Ma
     .have np:Hid (cQ h t sq q=match zR h.waits t ⟨false,h.ak,sq,q.cases⟩with|none=>(h,bg 13)|some l=>({h with waits:=l,ak:=h.ak+1},bg 14)):=by unfold Hid;rw[jm.Y,au b8]
      obtain⟨JM,cv,PZ⟩:=aS (λa (f:Ext wr a)=>L.more f.Y) (λa (f:Ext wr a)=>xc.ah f.Y) (λa (f:Ext wr a)=>u.ah f.Y);obtain⟨tj,rfl⟩:∃tj:Nat,t=tj:=⟨t.toNat,aa⟩
      have cz:tj<h.waits.length:=by have:=kM.Y;omega
      obtain⟨y,R⟩:∃y,h.waits[tj]?=some y:=⟨_,cq cz⟩
      have HY:=ae R;clear R;go_wp2_with fail;clear o r G E I;have o:=λa (f:Ext wr a) i=>ag.cell (dx.blk (JM a f)) i;have r:=λa (f:Ext wr a) i=>ag.cell (cv a f) i;unfold qb at o;cases jq:y.on with
      |true =>
       have HG:Hid (cQ h tj sq q=(h,bg 13)):=by unfold Hid;rw[np.Y];unfold zR;rw[au aa,fR,HY.Y];dsimp only;rw[ay jq]
       have JV:=ae (λa (f:Ext wr a)=>UB a A2 m2 h.waits rfl (bm HH.waits af) (JM a f).GP (λy R=>bm (HH.cases y R) af) HY jq h.ak sq D C O);clear jq;go_region_held3(Ext wr) (with_reducible(first|assumption|exact Ext.start _)) (((with_reducible go_fit (JV.Y _ (by assumption)));rintro e Z ⟨v,rfl,m⟩;have s:=Ext.to (by assumption) m));have W:=ae s;clear s m o r GG P;obtain⟨X,lz,Zc,iq⟩:=bh (JM _ W) (PZ _ W) (ah N W) ((ah N W).mono U);obtain⟨G,E,-⟩:=ag.aF lz;have I:=ag.lt lz;obtain⟨o,F,-⟩:=ag.aF (dx.blk X);have P:=ag.lt (dx.blk X);unfold qb at o;clear F;go_wp2_with fail;have V:=aY (vs:=[oZ,oZ,.int .i64 13,oZ]) lz rfl;have Aj:=dx.b9 X qj (bM _) lz af af 0 [oZ,oZ,.int .i64 13,oZ];have kN:Below base w (ax Z (w.heap.size+1) 0 [oZ,oZ,.int .i64 13,oZ]):=az (Nat.le_succ_of_le U) _ _ _ iq;change bodyPost _ _ _ _ _ (ax Z (w.heap.size+1) 0 [oZ,oZ,.int .i64 13,oZ]);have Ak:=uf.Y _ ((gu.ext Zc).new (q:=(w.heap.size+1)) aa 0 [oZ,oZ,.int .i64 13,oZ]);clear G E I o P;generalize ax Z (w.heap.size+1) 0 [oZ,oZ,.int .i64 13,oZ]=wz at *;have fy:=λi=>ag.cell V i;refine bodyPost_ret (v:=.agg #[oZ,oZ,.int .i64 13,oZ]) ?_ rfl ?_
       .exact mk5
       .exact Ma
      |false =>
       have HG:Hid (cQ h tj sq q=({h with waits:=h.waits.set tj ⟨true,h.ak,sq,q.cases⟩,ak:=h.ak+1},bg 14)):=by unfold Hid;rw[np.Y];unfold zR;rw[au aa,fR,HY.Y];dsimp only;rw[au (by rw[jq];decide)]
       have JV:=ae (λa (f:Ext wr a)=>Pb a A2 m2 h.waits rfl (bm HH.waits af) (JM a f).GP (λy R=>bm (HH.cases y R) af) HY jq h.ak sq q.cases D C O HN (by have:=HN.Y;have:=H3.Y;omega) (HR.below (ah N f.Y)));clear jq;go_region_held3(Ext wr) (with_reducible(first|assumption|exact Ext.start _)) (((with_reducible go_fit (JV.Y _ (by assumption)));rintro e Z ⟨v,rfl,A5,m5,rfl,bE,m⟩;have s:=Ext.to (by assumption) m;have T9:=ae bE;clear bE));have W:=ae s;have FC:(h.waits.set tj ⟨true,h.ak,sq,q.cases⟩).length=h.waits.length:=dN;have Wx:=ae (T9.bL (base':=base) (by have:=N.size;simp;omega));rw[<-FC]at Wx;clear s m o r GG P;obtain⟨X,lz,Zc,iq⟩:=bh (JM _ W) (PZ _ W) (ah N W) ((ah N W).mono U);obtain⟨G,E,-⟩:=ag.aF lz;have I:=ag.lt lz;obtain⟨o,F,-⟩:=ag.aF (dx.blk X);have P:=ag.lt (dx.blk X);unfold qb at o;have dc:h.ak+1<=4294967295:=aa;go_wp2_with fail;obtain⟨bz,a8⟩:=av (X.WJ Wx (h.ak+1)) ((aX lz (b:=w.heap.size+1) (g:=g) aa [.slice A5 h.waits.length m5] 2).b9 (p:=⟨g,0,none⟩) (by show w.heap.size+1≠g;omega) (.int .i64 (h.ak+1)));have nJ:Hid (Below base w ((ax Z g 2 [.slice A5 h.waits.length m5]).setCell ⟨g,0,none⟩ (.int .i64 (h.ak+1)))):=(az X.low [.slice A5 h.waits.length m5] _ 2 iq).setCell X.low _;have C7:Hid (gu w g (.slice A1 h.chans.length m1) (.slice A3 h.done.length m3) ((ax Z g 2 [.slice A5 h.waits.length m5]).setCell ⟨g,0,none⟩ (.int .i64 (h.ak+1)))):=((gu.ext Zc).Co 2 [.slice A5 h.waits.length m5]).Co 0 [.int .i64 (h.ak+1)];rw[FC]at bz;have Ec:=ae (λb hb=>Nat.ne_of_lt (Nat.lt_succ_of_lt (qj.2.2.2 b hb)));clear F;have V:=aY (vs:=[oZ,oZ,.int .i64 14,oZ]) a8 rfl;have Aj:=dx.yJ bz a8 af af af af af Ec 0 [oZ,oZ,.int .i64 14,oZ];have kN:Below base w (ax ((ax Z g 2 [.slice A5 h.waits.length m5]).setCell ⟨g,0,none⟩ (.int .i64 (h.ak+1))) (w.heap.size+1) 0 [oZ,oZ,.int .i64 14,oZ]):=az (Nat.le_succ_of_le U) _ _ _ nJ;change bodyPost _ _ _ _ _ (ax ((ax Z g 2 [.slice A5 h.waits.length m5]).setCell ⟨g,0,none⟩ (.int .i64 (h.ak+1))) (w.heap.size+1) 0 [oZ,oZ,.int .i64 14,oZ]);have Ak:=uf.Y _ (C7.new (q:=(w.heap.size+1)) aa 0 [oZ,oZ,.int .i64 14,oZ]);clear G E I o P;generalize ax ((ax Z g 2 [.slice A5 h.waits.length m5]).setCell ⟨g,0,none⟩ (.int .i64 (h.ak+1))) (w.heap.size+1) 0 [oZ,oZ,.int .i64 14,oZ]=wz at *;have fy:=λi=>ag.cell V i;refine bodyPost_ret (v:=.agg #[oZ,oZ,.int .i64 14,oZ]) ?_ rfl ?_
       .exact mk5
       .exact Ma
 .have HG:Hid (cQ h t sq q=(h,bg (ed h q.cases))):=by unfold Hid cQ;rw[ay Q]
  have d0:(ed h q.cases !=0)=true:=by simpa using Q
  clear Q;generalize ed h q.cases=ce at HG d0 ⊢;obtain⟨G,E,-⟩:=ag.aF gD;have I:=ag.lt gD;obtain⟨o,F,-⟩:=ag.aF (dx.blk lX);have P:=ag.lt (dx.blk lX);unfold qb at o;clear F;go_wp2_with fail;obtain⟨Jx,N⟩:=av (br.mono U) br;have V:=aY (vs:=[oZ,oZ,ce,oZ]) gD rfl;have Aj:=dx.b9 lX qj (bM _) gD af af 0 [oZ,oZ,ce,oZ];have kN:Below base w (ax Y (w.heap.size+1) 0 [oZ,oZ,ce,oZ]):=az (Nat.le_succ_of_le U) _ _ _ Jx;change bodyPost _ _ _ _ _ (ax Y (w.heap.size+1) 0 [oZ,oZ,ce,oZ]);have Ak:=uf.Y _ ((gu.ext N).new (q:=(w.heap.size+1)) aa 0 [oZ,oZ,ce,oZ]);clear G E I o P;generalize ax Y (w.heap.size+1) 0 [oZ,oZ,ce,oZ]=wz at *;have fy:=λi=>ag.cell V i;refine bodyPost_ret (v:=.agg #[oZ,oZ,ce,oZ]) ?_ rfl ?_
  .exact mk5
  .exact Ma
theorem Mk(w:World)(H:C4 w base g c A n k t sq h A1 A2 A3 m1 m2 m3)(J:GN h)(V:c.bn<=4095)(q:Rq)(D:Option Addr)(r s:Nat)(O:r=q.cases.length)(M:cN w bj D q.cases)(F:Mo.bt q=true)(C:h.done.length=h.waits.length)(uy:0<=t)(Q:t<h.waits.length)(Z:0<=h.ak/\h.ak<=4294967295) :
 Calls prog 248 #[.pointer g,.agg #[q.kind,q.arg,q.value,q.dflt,.slice D r s]] w (Ua base g c A n k t sq A1 A3 m1 m3 (eR c h t sq q) w):=by
 have K:=(gY.1 F).1
 obtain⟨f,a,b,d,j⟩:=q
 obtain⟨N,P,L,G,x,u⟩:=cS F M O C J H;obtain⟨Y,U⟩:=av H.PQ Q
 have y:h.done≠[]:=by intro e;rw[e]at C;simp at C;omega
 have R:=ae y
 dsimp only at K
 clear F M O C J Q y
 have o:Hid (Below w w ((w.alloc (.cells #[f,a,b,d,.slice D r s] 38)).alloc ke)):=aj (aj (ai w) _) _
 have I:Hid (ag ((w.alloc (.cells #[f,a,b,d,.slice D r s] 38)).alloc ke) w 38 #[f,a,b,d,.slice D r s]):=(ag.new _ _ _).alloc _
 have p:Hid (ag ((w.alloc (.cells #[f,a,b,d,.slice D r s] 38)).alloc ke) (w.heap.size+1) 64 #[oZ,oZ,oZ,oZ]):=(ag.newAt _ _ _ aA)
 obtain⟨m,qj⟩:=av (H.more o) H.nY
 have T:base<=w.heap.size:=bm H.low (Nat.le_of_lt H.blk.lt)
 have B8:g<w.heap.size:=H.blk.lt
 clear H
 dsimp only
 by_cases E:8<=f
 .have l:Hid (eR c h t sq ⟨f,a,b,d,j⟩=(h,bg 1)):=by unfold Hid eR;dsimp only;rw[au aa,au aa,au aa,au aa,au aa,au aa]
  have d1:(f==1)=false:=dp.2 aa;have d2:(f==2)=false:=dp.2 aa;have d3:(f==3)=false:=dp.2 aa;have d4:(f==4)=false:=dp.2 aa;have d5:(f==5)=false:=dp.2 aa;have d6:(f==6)=false:=dp.2 aa;have d7:(f==7)=false:=dp.2 aa;obtain⟨B,xo,S⟩:=aS (u.more (aj (aj (ai w) (.cells #[f,a,b,d,.slice D r s] 38)) (qh 0 0 1 0))) ((aj (aj (ai w) (.cells #[f,a,b,d,.slice D r s] 38)) (qh 0 0 1 0)).mono T) (Y _ (.ext (aj (aj (ai w) (.cells #[f,a,b,d,.slice D r s] 38)) (qh 0 0 1 0))));go_enter func248,ntmps248;go_wp2;refine bodyPost_ret (v:=.agg #[oZ,oZ,.int .i64 1,oZ]) ?_ rfl ?_
  .simp[results,results248,go_sem]
  .rw[l.Y];exact⟨rfl,⟨_,_,B⟩,xo,S⟩
 .have W:f=1\/f=2\/f=3\/f=4\/f=5\/f=6\/f=7:=aa;clear K E;have X:((w.alloc (.cells #[f,a,b,d,.slice D r s] 38)).alloc ke).heap.size=w.heap.size+1+1:=aA;obtain⟨w0,z⟩:=aw ((w.alloc (.cells #[f,a,b,d,.slice D r s] 38)).alloc ke);rcases W with rfl|rfl|rfl|rfl|rfl|rfl|rfl
  all_goals
   go_enter func248,ntmps248;go_wp2_with fail;rw[<-z]at o I p m X ⊢;obtain⟨cU,-,GG⟩:=ag.aF I;clear z
  .have l:Hid (eR c h t sq ⟨1,a,b,d,j⟩=lH c h a):=rfl;go_wp2_with fail;go_fit (PR _ m x V a);rintro e w3 hE;have HP:=ae (hE.pass u m o (q:=w.heap.size+1) (bM _) (c1:=[oZ,oZ,oZ,oZ]) p rfl);have he:e=_:=hE.1;rw[<-l.Y]at HP he;obtain⟨pp,Al⟩:=aw (eR c h t sq ⟨1,a,b,d,j⟩);exact Zd
  .have l:Hid (eR c h t sq ⟨2,a,b,d,j⟩=mR h a):=rfl;go_wp2_with fail;go_fit (Qo _ m x a);rintro e w3 hE;have HP:=ae (hE.pass u m o (q:=w.heap.size+1) (bM _) (c1:=[oZ,oZ,oZ,oZ]) p rfl);have he:e=_:=hE.1;rw[<-l.Y]at HP he;obtain⟨pp,Al⟩:=aw (eR c h t sq ⟨2,a,b,d,j⟩);exact Zd
  .have l:Hid (eR c h t sq ⟨3,a,b,d,j⟩=cQ h t sq ⟨3,a,b,d,j⟩):=rfl;go_wp2_with fail;go_fit (Hi _ m x ⟨3,a,b,d,j⟩ D r s L (P.below o) N G uy U Z);rintro e w3 hE;have HP:=ae (hE.pass u m o (q:=w.heap.size+1) (bM _) (c1:=[oZ,oZ,oZ,oZ]) p rfl);have he:e=_:=hE.1;rw[<-l.Y]at HP he;obtain⟨pp,Al⟩:=aw (eR c h t sq ⟨3,a,b,d,j⟩);exact Zd
  .have l:Hid (eR c h t sq ⟨4,a,b,d,j⟩=mS h a):=rfl;go_wp2_with fail;go_fit (Me _ m x a G R);rintro e w3 hE;have HP:=ae (hE.pass u m o (q:=w.heap.size+1) (bM _) (c1:=[oZ,oZ,oZ,oZ]) p rfl);have he:e=_:=hE.1;rw[<-l.Y]at HP he;obtain⟨pp,Al⟩:=aw (eR c h t sq ⟨4,a,b,d,j⟩);exact Zd
  .have l:Hid (eR c h t sq ⟨5,a,b,d,j⟩=(h,lZ h ⟨5,a,b,d,j⟩)):=rfl;go_wp2_with fail;go_fit (Eo _ m ⟨5,a,b,d,j⟩ D r s);rintro e w3 hE;have HP:=ae (hE.pass u m o (q:=w.heap.size+1) (bM _) (c1:=[oZ,oZ,oZ,oZ]) p rfl);have he:e=_:=hE.1;rw[<-l.Y]at HP he;obtain⟨pp,Al⟩:=aw (eR c h t sq ⟨5,a,b,d,j⟩);exact Zd
  .have l:Hid (eR c h t sq ⟨6,a,b,d,j⟩=(h,lZ h ⟨6,a,b,d,j⟩)):=rfl;go_wp2_with fail;go_fit (Eo _ m ⟨6,a,b,d,j⟩ D r s);rintro e w3 hE;have HP:=ae (hE.pass u m o (q:=w.heap.size+1) (bM _) (c1:=[oZ,oZ,oZ,oZ]) p rfl);have he:e=_:=hE.1;rw[<-l.Y]at HP he;obtain⟨pp,Al⟩:=aw (eR c h t sq ⟨6,a,b,d,j⟩);exact Zd
  .have l:Hid (eR c h t sq ⟨7,a,b,d,j⟩=eL h t a b):=rfl;go_wp2_with fail;go_fit (Hc _ m x a b G);rintro e w3 hE;have HP:=ae (hE.pass u m o (q:=w.heap.size+1) (bM _) (c1:=[oZ,oZ,oZ,oZ]) p rfl);have he:e=_:=hE.1;rw[<-l.Y]at HP he;obtain⟨pp,Al⟩:=aw (eR c h t sq ⟨7,a,b,d,j⟩);exact Zd
structure qZ (w:World) (base:Nat) (h:Mo.Hl) (A1 A2 A3:Option Addr) (n1 n2 n3 m1 m2 m3:Nat):Prop where
 ch:Gw w base (.slice A1 n1 m1) h.chans
 wt:j6 w base (.slice A2 n2 m2) h.waits
 dn:aH w base 64 4 fD (.slice A3 n3 m3) h.done
theorem qZ.more(H:qZ w base h A1 A2 A3 n1 n2 n3 m1 m2 m3)(f:Below w w w'):qZ w' base h A1 A2 A3 n1 n2 n3 m1 m2 m3:=⟨H.ch.gK cd f,H.wt.gK aI f,H.dn.ah f⟩
theorem qZ.b9(H:qZ w base h A1 A2 A3 n1 n2 n3 m1 m2 m3)(hq:q<base){f:TypeId}{F:Array Value}(E:ag w q f F)(r:f≠3)(C:f≠101)(o:Nat)(vs:List Value):qZ (ax w q o vs) base h A1 A2 A3 n1 n2 n3 m1 m2 m3:=by
 have c:∀b,eP w b->b≠q:=λb a d=>by subst d;exact eP.not E r C a
 refine⟨?_,?_,eV (λb a=>by have:=(bk H.dn a).1;omega) _ _ _ _ H.dn⟩
 .exact(aD.move cd H.ch (λb a=>aM (c b a) _ _) (λb a=>aM (by have:=(aD.lt H.ch a).1;omega) _ _)).mono cd (λb a=>fB _ _ _ a)
 .exact(aD.move aI H.wt (λb a=>aM (c b a) _ _) (λb a=>aM (by have:=(aD.lt H.wt a).1;omega) _ _)).mono aI (λb a=>fB _ _ _ a)
theorem qZ.put(H:qZ w base h g1 A2 A3 n1 n2 n3 m1 m2 m3){x:Ch}(l:h.chans[i]?=some x)(s:x.buf.length<=d)(C:bD w .i64 B x.buf)(r:∀b,B=some b->x.buf≠[]->Ty w 3 b.block) :
 qZ (ax w g1 (i*5) [x.gen,x.cap,x.used,x.closed,.slice B x.buf.length d]) base h g1 A2 A3 n1 n2 n3 m1 m2 m3:=by
 obtain⟨n,hg,k⟩:=H.ch.ty
 have jD:¬eP w g1:=eP.not hg af af
 refine⟨?_,?_,?_⟩
 .have c:Gw (ax w g1 (i*5) [x.gen,x.cap,x.used,x.closed,.slice B x.buf.length d]) base (.slice g1 n1 m1) (h.chans.set i x):=(H.ch.Gm cd (bT l) _ rfl (by intro u f;simp at f;rcases f with rfl|rfl|rfl|rfl|rfl<;>rfl) jD (y:=x) ⟨B,d,rfl,s,C,λg j a=>.inl (r g j a)⟩).mono cd (λb hb=>fB _ _ _ hb);have e:h.chans.set i x=h.chans:=by
   obtain⟨m,he⟩:=List.getElem?_eq_some_iff.1 l;rw[<-he];exact List.set_getElem_self m
  rwa [e]at c
 .exact abu
 .exact eV (λb hb he=>by subst he;exact eh H.dn hg af hb.symm) _ _ _ _ H.dn
def CpV(w:World)(h:Hl)(y C E:Nat)(f:World)(l r s:Option Addr)(d1 d2 d3:Nat):Prop:=ag f w 45 #[h.ak,.slice l y d1,.slice r C d2,.slice s E d3]/\ag f (w.heap.size+1) 45 #[oZ,oN,oN,oN]/\qZ f (w.heap.size+2) h l r s y C E d1 d2 d3/\Below w w f
def CpC(w:World)(h:Hl)(f l r:Nat)(s:World):Prop:=∃B1 B2 B3 d1 d2 d3,CpV w h f l r s B1 B2 B3 d1 d2 d3
theorem CpV.more(H:CpV w h n1 n2 n3 w1 B1 B2 B3 d1 d2 d3)(f:Below w1 w1 w2):CpV w h n1 n2 n3 w2 B1 B2 B3 d1 d2 d3:=⟨H.1.ah f,H.2.1.ah f,H.2.2.1.more f,ah H.2.2.2 f⟩
theorem CpC.of{f:World}(l:ag f w 45 #[h.ak,v1,v2,v3])(s:ag f (w.heap.size+1) 45 #[oZ,oN,oN,oN])(o:qZ f (w.heap.size+2) h B1 B2 B3 n1 n2 n3 d1 d2 d3)(r:Below w w f) :
 CpC w h n1 n2 n3 (((f.setCell ⟨w,1,none⟩ (.slice B1 n1 d1)).setCell ⟨w,2,none⟩ (.slice B2 n2 d2)).setCell ⟨w,3,none⟩ (.slice B3 n3 d3)) :=
 ⟨B1,B2,B3,d1,d2,d3,((l.bp 1 _).bp 2 _).bp 3 _,aX s aa [.slice B1 n1 d1,.slice B2 n2 d2,.slice B3 n3 d3] 1,o.b9 aa l af af 1 [.slice B1 n1 d1,.slice B2 n2 d2,.slice B3 n3 d3],az (aR _) [.slice B1 n1 d1,.slice B2 n2 d2,.slice B3 n3 d3] _ 1 r⟩
def Nx(h:Hl)(w:World)(e:Ending)(f:World):Prop:=∃A1 A2 A3 m1 m2 m3,e=.returned (.agg #[h.ak,.slice A1 h.chans.length m1,.slice A2 h.waits.length m2,.slice A3 h.done.length m3])/\qZ f w h A1 A2 A3 h.chans.length h.waits.length h.done.length m1 m2 m3/\Below w w f
theorem Ml(w:World)(h:Hl)(E F G:Option Addr)(f l s I J K:Nat)(mI:f=h.chans.length)(pG:l=h.waits.length)(sH:s=h.done.length)(l1:f<=1000)(l2:l<=1000)(l3:s<=1000)(h1:lV w E h.chans)(h2:ez w F h.waits)(h3:cN w fD G h.done)(CT:∀x∈h.chans,x.buf.length<=90000)(O:∀x∈h.waits,x.cases.length<=90000) :
 Calls prog 247 #[.agg #[h.ak,.slice E f I,.slice F l J,.slice G s K]] w (Nx h w):=by
 obtain⟨C1,C2,C3,T,N2,N3⟩:=cS (λk (C:Below w w k)=>DV k E I h.chans mI aa (h1.gK cd C)) (λk (C:Below w w k)=>jo k F J h.waits pG aa (h2.gK aI C) (λx H=>bm (O x H) af)) (λk (C:Below w w k)=>Gv k G K h.done sH aa (h3.below C)) mI pG sH
 have TP:=ae CT
 clear h1 h2 h3 CT O mI pG sH
 have bJ:Hid (Below w w ((w.alloc (sY h.ak E f I F l J G s K)).alloc sj)):=aj (aj (ai w) _) _
 have V:Below w w (((w.alloc (sY h.ak E f I F l J G s K)).alloc sj).drew):=(aj (aj (ai w) _) _).drew
 have Gi:ag (((w.alloc (sY h.ak E f I F l J G s K)).alloc sj).drew) w 45 #[h.ak,.slice E f I,.slice F l J,.slice G s K]:=(ag.new _ _ _).alloc _
 have vQ:ag (((w.alloc (sY h.ak E f I F l J G s K)).alloc sj).drew) (w.heap.size+1) 45 #[oZ,oN,oN,oN]:=(ag.newAt _ _ _ aA)
 go_enter func247,ntmps247
 go_wp2_with fail
 go_upto_region 1 with fail
 go_cut[] (λk=>CpC w h f l s k)
 case first =>
  go_region_law(first
   |(go_simp;go_at_call 255;go_fit (C1 _ V);rintro e w1 ⟨z,d1,rfl,fe,o⟩;have qE:=ah V o;have pF:=Gi.ah o;have xh:=vQ.ah o;have Tz:=λi=>ag.cell pF i;go_wp2_with fail)
   |(go_simp;go_at_call 256;go_fit (C2 _ qE);rintro e w2 ⟨v2,rfl,m,d2,rfl,gA,t⟩;have vR:=ah qE t;have M:=pF.ah t;have vS:=xh.ah t;have aq:=λi=>ag.cell M i;go_wp2_with fail)
   |(go_simp;go_at_call 251;go_fit (C3 _ vR);rintro e w3 ⟨n,d3,rfl,bz,pT,u⟩;have xi:=ah vR u;have A:=M.ah u;have zx:=vS.ah u;have a6:=λi=>ag.cell A i;have a7:=λi=>ag.free A i;have a8:=A.lt;go_wp2_with fail))
  all_goals
   go_wp2;go_meet;exact CpC.of A zx ⟨((fe.bL (base':=w.heap.size+2) aA).gK cd t).gK cd u,(gA.bL (base':=w.heap.size+2) (by have:=o.size;simp at this;omega)).gK aI u,pT.bL (base':=w.heap.size+2) (by have:=o.size;have:=t.size;simp at *;omega)⟩ xi
 case rest =>
  obtain⟨z,m,n,d1,d2,d3,X⟩:=hcut;have HV:=ae X;obtain⟨N,-,P⟩:=ag.aF X.1;clear X V Gi vQ C1 C2 C3 bJ;go_wp2_with fail;clear N P;go_loopw[19] (λi wr=>∃j:Nat,j<=f/\i=j/\Hid (CpV w h f l s wr z m n d1 d2 d3)) (λi _=>f-(intOf i).toNat);case atStart=>exact⟨0,aZ _,rfl,HV⟩
  case round =>
   obtain⟨j,hj,rfl,a⟩:=hrel;obtain⟨N,-,P⟩:=ag.aF a.1;by_cases Z:j<f
   .obtain⟨x,H⟩:∃x,h.chans[j]?=some x:=⟨_,cq (by rw[<-T.Y];exact Z)⟩
    obtain⟨c,c',hv,bE,y⟩:=a.2.2.1.ch.form (by have:=bo H;intro e;rw[e]at this;cases this);injection hv with e1 e2 e3
    subst e1 e3;clear e2;obtain⟨r,hP,iX,hcell⟩:=a.2.2.1.ch.at_ H;obtain⟨D,dd,rfl,Y,pS⟩:=hP;have U:=hcell 0 _ rfl;rw[Nat.add_zero]at U;have c1:=hcell 1 _ rfl;have c2:=hcell 2 _ rfl;have c3:=hcell 3 _ rfl;have c4:=hcell 4 _ rfl;obtain⟨HX,n9⟩:=av H (λk (C:Below wr wr k)=>mM k x D x.buf.length dd rfl (bm (TP x (bo H)) af) (pS.1.below C));have i1:(0:Int)<=(j:Int):=aa;have i2:(j:Int)<(f:Int):=aa;clear hcell H pS Y iX;go_wp2_with fail;have f0:=a.2.2.1.ch.bq (j*5);have f1:=a.2.2.1.ch.bq (j*5+1);have f2:=a.2.2.1.ch.bq (j*5+2);have f3:=a.2.2.1.ch.bq (j*5+3);have f4:=a.2.2.1.ch.bq (j*5+4);have S:Below wr wr wr.drew:=(ai wr).drew;go_region_law(first
     |(go_simp;go_at_call 257;go_fit (n9 _ S);rintro e w5 ⟨v5,rfl,R,W,rfl,Q,dJ⟩;have d:=ah S dJ;have GF:=λi=>ag.cell (ag.ah a.1 d) i;have k0:=(d.cell (p:=⟨c,j*5,none⟩) y).trans U;have k1:=(d.cell (p:=⟨c,j*5+1,none⟩) y).trans c1;have k2:=(d.cell (p:=⟨c,j*5+2,none⟩) y).trans c2;have k3:=(d.cell (p:=⟨c,j*5+3,none⟩) y).trans c3;have k4:=(d.cell (p:=⟨c,j*5+4,none⟩) y).trans c4;have j0:=(d.frozen (p:=⟨c,j*5,none⟩) y).trans f0;have j1:=(d.frozen (p:=⟨c,j*5+1,none⟩) y).trans f1;have j2:=(d.frozen (p:=⟨c,j*5+2,none⟩) y).trans f2;have j3:=(d.frozen (p:=⟨c,j*5+3,none⟩) y).trans f3;have j4:=(d.frozen (p:=⟨c,j*5+4,none⟩) y).trans f4;have pL:=ltW d y;go_wp2_with fail))
    all_goals
     have L:=a.more d;have Uc:w≠c:=aa;have Ud:w.heap.size+1≠c:=aa;have X6:CpV w h f l s (ax w5 c (j*5) [x.gen,x.cap,x.used,x.closed,.slice R x.buf.length W]) c m n d1 d2 d3:=⟨aX L.1 Uc _ _,aX L.2.1 Ud _ _,L.2.2.1.put HX Q.cap.2 Q.pw.2 (λb C _=>by subst C;exact pI Q),az aa _ _ _ L.2.2.2⟩
     have UE:=ae X6;clear L X6 U c1 c2 c3 c4 f0 f1 f2 f3 f4 k0 k1 k2 k3 k4 j0 j1 j2 j3 j4 GF N P dJ d S Q;change Exit.inBlock _ _ _ _ (ax w5 c (j*5) [x.gen,x.cap,x.used,x.closed,.slice R x.buf.length W]);generalize ax w5 c (j*5) [x.gen,x.cap,x.used,x.closed,.slice R x.buf.length W]=w6 at *;go_wp2;go_roundw;case rel=>exact⟨j+1,aa,by go_num,UE⟩
     case measure=>simp[intOf];omega
   .skip;obtain⟨bN,cj,-⟩:=ag.aF a.2.1;have cu:=ag.lt a.2.1;go_wp2_with fail;have iB:=aY (vs:=[h.ak,.slice z f d1,.slice m l d2,.slice n s d3]) a.2.1 rfl;have vY:=a.2.2.1.b9 (q:=w.heap.size+1) aa a.2.1 af af 0 [h.ak,.slice z f d1,.slice m l d2,.slice n s d3];have kN:=az (B:=w.heap.size) (g:=w.heap.size+1) aa [h.ak,.slice z f d1,.slice m l d2,.slice n s d3] _ 0 a.2.2.2;change bodyPost _ _ _ _ _ (ax wr (w.heap.size+1) 0 [h.ak,.slice z f d1,.slice m l d2,.slice n s d3]);clear bN cj cu N P;generalize ax wr (w.heap.size+1) 0 [h.ak,.slice z f d1,.slice m l d2,.slice n s d3]=wz at *;have fy:=λi=>ag.cell iB i;have kL:Nx h w (.returned (.agg #[h.ak,.slice z f d1,.slice m l d2,.slice n s d3])) wz:=⟨z,m,n,d1,d2,d3,by rw[<-T.Y, <-N2.Y, <-N3.Y],by rw[<-T.Y, <-N2.Y, <-N3.Y];exact⟨vY.ch.bL aa,vY.wt.bL aa,vY.dn.bL aa⟩,kN⟩
    refine bodyPost_ret (v:=.agg #[h.ak,.slice z f d1,.slice m l d2,.slice n s d3]) ?_ rfl kL;simp[results,results247,go_sem,fy]
theorem qZ.bL(H:qZ w base h A1 A2 A3 n1 n2 n3 m1 m2 m3)(l:base'<=base):qZ w base' h A1 A2 A3 n1 n2 n3 m1 m2 m3:=⟨H.ch.bL l,H.wt.bL l,H.dn.bL l⟩
abbrev K8 (c:dG) (A:Option Addr) (n k:Nat) (t s:Int) (h:Hl) (f l r:Option Addr) (d1 d2 d3:Nat):Array Value:=(.int .i64 h.ak:: .slice f h.chans.length d1:: .slice l h.waits.length d2:: .slice r h.done.length d3::qb c A n k t s).toArray
theorem dx.ofO(H:qZ w base h B1 B2 B3 h.chans.length h.waits.length h.done.length d1 d2 d3)(f:base<=w.heap.size):C4 (w.alloc (.cells (K8 c A n k t sq h B1 B2 B3 d1 d2 d3) 277)) base w c A n k t sq h B1 B2 B3 d1 d2 d3 :=
 have a:=H.more (aj (ai w) (.cells (K8 c A n k t sq h B1 B2 B3 d1 d2 d3) 277))
 ⟨ag.new _ _ _,a.ch,a.wt,a.dn,f,af⟩
theorem Hj(w:World)(r s C:Option Addr)(E F G I J K:Nat)(mI:E=h.chans.length)(pG:F=h.waits.length)(sH:G=h.done.length)(h1:lV w r h.chans)(h2:ez w s h.waits)(h3:cN w fD C h.done)(U:GN h)(nA:c.bn<=4095)(q:Rq)(D:Option Addr)(H M:Nat)(qf:H=q.cases.length)(hr:cN w bj D q.cases)(hq:Mo.bt q=true)(R:h.done.length=h.waits.length)(uy:0<=t)(vN:t<h.waits.length)(uw:0<=h.ak/\h.ak<=4294967295)(a7:(eR c h t sq q).1.done.length=h.done.length) :
 Calls prog 235 #[.agg #[c.kind,c.threads,c.chans,c.cap,c.nodes,c.aP,c.aB,c.tags,c.bw,c.bn,.slice A n k],.agg #[h.ak,.slice r E I,.slice s F J,.slice C G K],t,sq,.agg #[q.kind,q.arg,q.value,q.dflt,.slice D H M]] w (Nx (cY c h t sq q) w):=by
 obtain⟨lC,iF,X,jf,kM⟩:=bQ (λm (o:Below w w m)=>Ml m h r s C E F G I J K mI pG sH (by rw[mI];exact bm U.chans af) (by rw[pG];exact bm U.waits af) (by rw[sH];exact bm U.done af) (h1.gK cd o) (h2.gK aI o) (h3.below o) U.buf U.cases) (λm {base g:Nat} {l N O:Option Addr} {d1 d2 d3:Nat} (o:Below w w m) (HV:C4 m base g c A n k t sq h l N O d1 d2 d3)=>Mk m HV U nA q D H M qf (hr.below o) hq R uy vN uw) a7 R vN
 clear h1 h2 h3 U qf hr hq R mI pG sH a7 vN
 have Y:Hid (Below w w ((((w.alloc (dB c A n k)).alloc (sY h.ak r E I s F J C G K)).alloc (lQ q D H M)).alloc sj)):=aj (aj (aj (aj (ai w) _) _) _) _
 have uG:Hid (ag ((((w.alloc (dB c A n k)).alloc (sY h.ak r E I s F J C G K)).alloc (lQ q D H M)).alloc sj) w.heap.size 24 #[c.kind,c.threads,c.chans,c.cap,c.nodes,c.aP,c.aB,c.tags,c.bw,c.bn,.slice A n k]):=(((ag.new _ _ _).alloc _).alloc _).alloc _
 have P:Hid (ag ((((w.alloc (dB c A n k)).alloc (sY h.ak r E I s F J C G K)).alloc (lQ q D H M)).alloc sj) (w.heap.size+1) 45 #[h.ak,.slice r E I,.slice s F J,.slice C G K]):=((ag.newAt _ _ _ aA).alloc _).alloc _
 have Ze:Hid (ag ((((w.alloc (dB c A n k)).alloc (sY h.ak r E I s F J C G K)).alloc (lQ q D H M)).alloc sj) (w.heap.size+2) 38 #[q.kind,q.arg,q.value,q.dflt,.slice D H M]):=(ag.newAt _ _ _ aA).alloc _
 have xc:Hid (ag ((((w.alloc (dB c A n k)).alloc (sY h.ak r E I s F J C G K)).alloc (lQ q D H M)).alloc sj) (w.heap.size+3) 45 #[oZ,oN,oN,oN]):=(ag.newAt _ _ _ aA)
 have oJ:((((w.alloc (dB c A n k)).alloc (sY h.ak r E I s F J C G K)).alloc (lQ q D H M)).alloc sj).heap.size=w.heap.size+4:=aA
 obtain⟨w0,bz⟩:=aw ((((w.alloc (dB c A n k)).alloc (sY h.ak r E I s F J C G K)).alloc (lQ q D H M)).alloc sj)
 go_enter func235,ntmps235
 go_wp2
 simp only[Nat.add_assoc,Nat.reduceAdd]
 rw[<-bz]at Y uG P Ze xc oJ ⊢
 clear bz
 have Sr:=ae (λm (o:Ext w0 m)=>lC m (ah Y o.Y))
 have b6:=λm (o:Ext w0 m) i=>ag.cell (uG.ah o.Y) i
 have b7:=λm (o:Ext w0 m) i=>ag.cell (P.ah o.Y) i
 go_region_held3(Ext w0) (with_reducible(first|assumption|exact Ext.start _|exact Ext.alloc (by assumption) _)) (((with_reducible go_fit (Sr.Y _ (by assumption)));rintro e W ⟨l,N,O,d1,d2,d3,rfl,hO,a6⟩;have gF:=Ext.to (by assumption) a6;have HO:=ae hO;clear hO))
 have nj:=ae gF
 have cv:=gF.Y.size
 have sN:Hid (C4 (W.alloc (.cells (K8 c A n k t sq h l N O d1 d2 d3) 277)) (w.heap.size+4) W.heap.size c A n k t sq h l N O d1 d2 d3):=dx.ofO (HO.bL (by show w.heap.size+4<=w0.heap.size;omega)) aa
 have V:=ae (Ext.alloc nj (.cells (K8 c A n k t sq h l N O d1 d2 d3) 277))
 change Exit.then _ _ _ _ (W.alloc (.cells (K8 c A n k t sq h l N O d1 d2 d3) 277))
 have b8:w.heap.size+4<=W.heap.size:=aa
 clear b6 b7 gF a6 HO nj Sr cv
 generalize W.heap.size=g at sN b8 ⊢
 generalize W.alloc (.cells (K8 c A n k t sq h l N O d1 d2 d3) 277)=w2 at *
 have bN:=λi=>ag.cell (Ze.ah V.Y) i
 have cu:=(Ze.ah V.Y).lt
 go_wp2_with fail
 go_fit (iF _ (ah Y V.Y) sN)
 rintro e T Z
 have he:e=_:=Z.1
 obtain⟨p,x,(f:Hid _)⟩:=Z.2.1
 obtain⟨bU,z,iY⟩:=aS Z.2.2.1 (ag.below (xc.ah V.Y) Z.2.2.1 aa) (ah Y V.Y)
 obtain⟨pp,Al⟩:=aw (eR c h t sq q)
 rw[<-Al]at he f X
 have b5:=ae Al
 clear Al Z bN cu iF lC uG P Ze xc V sN Y
 subst he
 obtain⟨a,rfl⟩:∃a:Nat,t=a:=⟨t.toNat,aa⟩
 have u:a<pp.1.done.length:=by have:=X.Y;have:=jf.Y;have:=kM.Y;omega
 obtain⟨dl,R⟩:=aw pp.1.done.length
 have bE:=ae R
 have i1:(0:Int)<=(a:Int):=aa
 have i2:(a:Int)<(dl:Int):=aa
 have i3:a<dl:=aa
 obtain⟨d,c',hv,a8,nA⟩:=f.done.form (by intro e;rw[e]at u;simp at u)
 injection hv with e1 e2 e3
 subst e1 e3
 clear e2
 have ct:g≠d:=λe=>by subst e;exact eh f.done f.blk af rfl
 have Ac:d≠g:=λe=>ct e.symm
 obtain⟨y,hy⟩:∃y,pp.1.done[a]?=some y:=⟨_,cq u⟩
 have k0:=aH.cells dC f.done hy (j:=0) rfl
 have k1:=aH.cells dC f.done hy (j:=1) rfl
 have k2:=aH.cells dC f.done hy (j:=2) rfl
 have k3:=aH.cells dC f.done hy (j:=3) rfl
 rw[Nat.add_zero]at k0
 have f0:=aH.frozen f.done (a*4)
 have f1:=aH.frozen f.done (a*4+1)
 have f2:=aH.frozen f.done (a*4+2)
 have f3:=aH.frozen f.done (a*4+3)
 clear hy u
 obtain⟨Q,S,-⟩:=ag.aF (dx.blk f)
 have eH:=ag.lt (dx.blk f)
 unfold qb at Q
 rw[<-R]at Q
 clear R
 have cw:g<T.heap.size:=eH
 go_wp2
 go_region
 clear k0 k1 k2 k3 f0 f1 f2 f3 Q S eH
 have yA:sM T T (w.heap.size+4) d pp.1.done.length d3 pp.1.done:=⟨f.done,λ_ _ _=>rfl,Below.refl _ _,aR _,a8⟩
 have tx:=yA.put (i:=a) (by rw[<-bE.Y];exact i3) ⟨sq,pp.2.cs,pp.2.code,pp.2.value⟩
 have WK:=f.told (L:=pp.1.done.set a ⟨sq,pp.2.cs,pp.2.code,pp.2.value⟩) dN tx
 have aq:=aX z (b:=w.heap.size+3) (g:=d) aa (fD ⟨sq,pp.2.cs,pp.2.code,pp.2.value⟩) (a*4)
 have JU:Below (w.heap.size+4) w2 (ax T d (a*4) (fD ⟨sq,pp.2.cs,pp.2.code,pp.2.value⟩)):=az a8 _ _ _ bU
 change Exit.then _ _ _ _ ((ax T d (a*4) (fD ⟨sq,pp.2.cs,pp.2.code,pp.2.value⟩)).alloc (qh sq pp.2.cs pp.2.code pp.2.value)).drew
 have rK:=(aj (ai (ax T d (a*4) (fD ⟨sq,pp.2.cs,pp.2.code,pp.2.value⟩))) (qh sq pp.2.cs pp.2.code pp.2.value)).drew
 obtain⟨nu,qT,iq⟩:=aS (WK.more rK) (aq.ah rK) ((iY.trans ((JU.mono (Nat.le_add_right _ 4)).trans (rK.mono (by rw[bO];omega)))))
 clear yA tx WK aq JU rK z bU f
 generalize((ax T d (a*4) (fD ⟨sq,pp.2.cs,pp.2.code,pp.2.value⟩)).alloc (qh sq pp.2.cs pp.2.code pp.2.value)).drew=w5 at *
 obtain⟨bN,cj,-⟩:=ag.aF qT
 have cu:=ag.lt qT
 obtain⟨Q,S,-⟩:=ag.aF (dx.blk nu)
 have eH:=ag.lt (dx.blk nu)
 unfold qb at Q
 have UF:(pp.1.done.set a ⟨sq,pp.2.cs,pp.2.code,pp.2.value⟩).length=pp.1.done.length:=dN
 have HG:Hid (cY c h a sq q={pp.1 with done:=pp.1.done.set a ⟨sq,pp.2.cs,pp.2.code,pp.2.value⟩}):=by unfold Hid cY cY.xC;rw[<-b5.Y];dsimp only;rw[au aa,fR]
 rw[UF]at Q
 clear S
 go_wp2_with fail
 have lh:qZ w5 (w.heap.size+4) {pp.1 with done:=pp.1.done.set a ⟨sq,pp.2.cs,pp.2.code,pp.2.value⟩} l p d pp.1.chans.length pp.1.waits.length pp.1.done.length d1 x d3:=⟨nu.chans,nu.waits,by have:=nu.done;rw[UF]at this;exact this⟩
 have iB:=aY (vs:=[pp.1.ak,.slice l pp.1.chans.length d1,.slice p pp.1.waits.length x,.slice d pp.1.done.length d3]) qT rfl
 have vY:=lh.b9 (q:=w.heap.size+3) aa qT af af 0 [pp.1.ak,.slice l pp.1.chans.length d1,.slice p pp.1.waits.length x,.slice d pp.1.done.length d3]
 have kN:=az (B:=w.heap.size) (g:=w.heap.size+3) aa [pp.1.ak,.slice l pp.1.chans.length d1,.slice p pp.1.waits.length x,.slice d pp.1.done.length d3] _ 0 iq
 change bodyPost _ _ _ _ _ (ax w5 (w.heap.size+3) 0 [pp.1.ak,.slice l pp.1.chans.length d1,.slice p pp.1.waits.length x,.slice d pp.1.done.length d3])
 clear bN cj cu Q eH
 generalize ax w5 (w.heap.size+3) 0 [pp.1.ak,.slice l pp.1.chans.length d1,.slice p pp.1.waits.length x,.slice d pp.1.done.length d3]=wz at *
 have fy:=λi=>ag.cell iB i
 have kL:Nx (cY c h a sq q) w (.returned (.agg #[pp.1.ak,.slice l pp.1.chans.length d1,.slice p pp.1.waits.length x,.slice d pp.1.done.length d3])) wz:=by rw[HG.Y];refine⟨l,p,some ⟨d,0,none⟩,d1,x,d3,by dsimp only;rw[UF],?_,kN⟩;dsimp only;rw[UF];exact vY.bL aa
 refine bodyPost_ret (v:=.agg #[pp.1.ak,.slice l pp.1.chans.length d1,.slice p pp.1.waits.length x,.slice d pp.1.done.length d3]) ?_ rfl kL
 simp[results,results235,go_sem,fy]
theorem Mn{f:α->List Value}(l:∀c,(f c).length=m)(r:0<m)(x:α)(n:Nat):(madeCells (f x).toArray (n*m)).toList=(List.replicate n x).flatMap f:=by
 have k:((List.replicate n x).flatMap f).length=n*m:=by rw[jG l,jI]
 have j:(madeCells (f x).toArray (n*m)).toList.length=n*m:=by rw[Array.length_toList,size_madeCells]
 apply List.ext_getElem?;intro i;by_cases g:i<n*m
 .have e:i=(i/m)*m+i%m:=(Nat.div_add_mod' i m).symm;have h:i/m<n:=Nat.div_lt_of_lt_mul (by rw[Nat.mul_comm];exact g);have a:=Nat.mod_lt i r;have b:=tH l (List.replicate n x) (i/m) x (i%m) (by rw[List.getElem?_replicate,ay h]) a;rw[<-e]at b;rw[b];unfold madeCells;rw[Array.toList_map,List.getElem?_map,Array.toList_range,List.getElem?_range g,Option.map_some,kC,l];have d:i%m<(f x).length:=by rw[l];exact a
  rw[cq d,getElem!_pos (f x).toArray (i%m) (by simpa using d)];simp
 .rw[List.getElem?_eq_none aa,List.getElem?_eq_none aa]
theorem rL{f:α->List Value}(r:∀c,(f c).length=m)(s:0<m)(x:α)(n:Nat)(y:n<=100000)(h:ag w g e (madeCells (f x).toArray (n*m)))(l:base<=g):aH w base e m f (.slice g n n) (List.replicate n x):=by unfold aH;rw[jI, <-Mn r s];exact⟨by rw[Array.length_toList,size_madeCells],.inr ⟨g,n,madeCells (f x).toArray (n*m),rfl,l,h,aR _,by unfold maxLen;omega,size_madeCells _ _,List.take_of_length_le (by rw[Array.length_toList,size_madeCells];exact aR _)⟩⟩
theorem qZ.abw(H:qZ w base h g1 A2 A3 n1 n2 n3 m1 m2 m3)(r:i<h.chans.length)(y:Ch)(l:y.buf.length<=d)(s:bD w .i64 B y.buf)(f:∀b,B=some b->y.buf≠[]->Ty w 3 b.block) :
 qZ (ax w g1 (i*5) [y.gen,y.cap,y.used,y.closed,.slice B y.buf.length d]) base {h with chans:=h.chans.set i y} g1 A2 A3 n1 n2 n3 m1 m2 m3:=by
 obtain⟨k,hg,j⟩:=H.ch.ty
 have jD:¬eP w g1:=eP.not hg af af
 refine⟨?_,?_,?_⟩
 .exact(H.ch.Gm cd r _ rfl (by intro u c;simp at c;rcases c with rfl|rfl|rfl|rfl|rfl<;>rfl) jD (y:=y) ⟨B,d,rfl,l,s,λe g a=>.inl (f e g a)⟩).mono cd (λb hb=>fB _ _ _ hb)
 .exact abu
 .exact eV (λb hb he=>by subst he;exact eh H.dn hg af hb.symm) _ _ _ _ H.dn
def chR:Row 5:=⟨[oZ,oZ,false,false,oN],rfl,by intro u a;simp at a;rcases a with rfl|rfl|rfl|rfl|rfl<;>rfl⟩
def wtR:Row 4:=⟨[false,oZ,oZ,oN],rfl,by intro u a;simp at a;rcases a with rfl|rfl|rfl|rfl<;>rfl⟩
def C8(c:dG)(n j:Nat):List Ch:=(List.range n).map λi=>if i<j then(match c.start[i]? with|some k=>⟨1,k,true,false,[]⟩|none=>Dg)else Dg
theorem rM(c:dG)(n j:Nat):(C8 c n j).length=n:=by unfold C8;simp
theorem abx(c:dG)(n:Nat):C8 c n 0=List.replicate n Dg:=by
 apply List.ext_getElem?;intro i;unfold C8;rw[List.getElem?_map,List.getElem?_replicate];by_cases h:i<n
 .rw[List.getElem?_range h,ay h];rfl
 .rw[List.getElem?_eq_none (by simp;omega),au h];rfl
theorem Eu{k:Int}(l:c.start[j]?=some k)(f:j<n):C8 c n (j+1)=(C8 c n j).set j ⟨1,k,true,false,[]⟩:=by
 apply List.ext_getElem?;intro i;unfold C8;rw[List.getElem?_map,List.getElem?_set,List.getElem?_map,fP,List.length_range];by_cases e:j=i
 .subst e;rw[ay rfl,ay f,List.getElem?_range f,Option.map_some,ay (Nat.lt_succ_self _),l]
 .rw[au e];by_cases h:i<n
  .rw[List.getElem?_range h,Option.map_some,Option.map_some];by_cases a:i<j
   .rw[ay aa,ay a]
   .rw[au aa,au a]
  .rw[List.getElem?_eq_none (by simp;omega)];rfl
theorem JW:C8 c n c.start.length=(List.range n).map λi=>match c.start[i]? with|some k=>⟨1,k,true,false,[]⟩|none=>Dg:=by
 unfold C8;refine List.map_congr_left λi _=>?_;by_cases h:i<c.start.length
 .rw[ay h]
 .rw[au h,List.getElem?_eq_none aa]
theorem ag.dr{t:TypeId}{f:Array Value}(h:ag w g t f):ag w.drew g t f:=h
theorem Ext.Hk(w:World)(o f l:Obj):Ext w (((w.alloc o).alloc f).alloc l).drew:=(aj (aj (aj (ai w) o) f) l).drew
theorem Ext.Qx(w:World)(o f l r:Obj):Ext w ((((w.alloc o).alloc f).alloc l).alloc r).drew:=(aj (aj (aj (aj (ai w) o) f) l) r).drew
theorem run_mk(w:World)(t e:TypeId){z:Value}{sz by_:Nat}(s:prog.underlying t=some (.slice e))(r:(prog.info? e).map (λi=>(i.zero,i.size,i.bytes))=some (some z,sz,by_))(L:Int)(f:0<=L)(l:L<=100000)(C:by_<=1000) :
 (Instr.makeSlice t L L).run prog w=.ok (.slice w L.toNat L.toNat) (w.alloc (.cells (madeCells z.cells (L.toNat*sz)) e)):=by
 obtain⟨i,d,a,b,c⟩:=info_parts r
 subst b
 exact run_make w t e i z s d a .i64 .i64 L L f (ek _) (by
  have:(i.bytes:Int)*L<=1000*100000:=Int.mul_le_mul aa l f af;omega) aa
def StC(w r:World)(c:dG)(l:Value)(f:World):Prop:=∃g1 a b p,l=.pointer (some ⟨p,0,none⟩)/\ag f p 45 #[oZ,.slice (some ⟨g1,0,none⟩) c.chans.toNat c.chans.toNat,.slice (some ⟨a,0,none⟩) c.threads.toNat c.threads.toNat,.slice (some ⟨b,0,none⟩) c.threads.toNat c.threads.toNat] /\
 w.heap.size+1<g1/\w.heap.size+1<a/\w.heap.size+1<b/\w.heap.size+1<p/\(p<g1\/g1<p) /\
 ag f g1 50 (madeCells (dF chR).toArray (c.chans.toNat*5))/\ag f a 99 (madeCells (dF wtR).toArray (c.threads.toNat*4))/\ag f b 64 (madeCells (fD cE).toArray (c.threads.toNat*4)) /\
 Ext r f
theorem Hm(w:World)(hc:aV c=true)(hk:c.kind=3)(R:n=c.start.length)(hr:bD w .i64 A c.start) :
 Calls prog 130 #[.agg #[c.kind,c.threads,c.chans,c.cap,c.nodes,c.aP,c.aB,c.tags,c.bw,c.bn,.slice A n k]] w (Nx (eb c) w):=by
 have s:=Mo.aO hc
 have S:(c.start.length:Int)<=c.chans:=by exact WL
 have b1:0<=c.chans:=s.2.2.2.2.2.2.2.1
 have b2:c.chans<=8:=s.2.2.2.2.2.2.2.2
 have b3:1<=c.threads:=s.1.1
 have b4:c.threads<=64:=s.1.2
 have a1:¬8<c.chans:=aa
 have a2:¬c.chans<0:=aa
 have a3:¬64<c.threads:=aa
 have a4:¬c.threads<0:=aa
 obtain⟨G,Z,Y⟩:=aS R S hr
 clear s S R hr hc hk
 have O:Hid (Below w w ((w.alloc (dB c A n k)).alloc sj)):=aj (aj (ai w) _) _
 have F:Hid (ag ((w.alloc (dB c A n k)).alloc sj) w 24 #[c.kind,c.threads,c.chans,c.cap,c.nodes,c.aP,c.aB,c.tags,c.bw,c.bn,.slice A n k]):=(ag.new _ _ _).alloc _
 have N:Hid (ag ((w.alloc (dB c A n k)).alloc sj) (w.heap.size+1) 45 #[oZ,oN,oN,oN]):=(ag.newAt _ _ _ aA)
 have oJ:((w.alloc (dB c A n k)).alloc sj).heap.size=w.heap.size+1+1:=aA
 obtain⟨M,m⟩:=aw ((w.alloc (dB c A n k)).alloc sj)
 go_enter func130,ntmps130
 go_wp2_with fail
 rw[<-m]at O F N oJ ⊢
 have Zf:=ae m
 clear m
 obtain⟨l,-,I⟩:=ag.aF F
 go_quiet(fail)
 generalize T:World.drewN M _=w1
 have nj:Hid (Ext M w1):=by rw[<-T];exact bZ (ai M) _
 clear T l I
 go_wp2
 go_cut[5] (λs5 wx=>StC w w1 c s5 wx)
 case first=>exact WM
 case rest =>
  obtain⟨g1,g2,g3,p,rfl,E,nA,aq,a6,s,a7,La,BQ,Mp,Q⟩:=hcut;have C:=ae (nj.to Q.Y);have o:=ae (ah O C.Y);have P:qZ wc (w.heap.size+2) ⟨0,C8 c c.chans.toNat 0,List.replicate c.threads.toNat fU,List.replicate c.threads.toNat cE⟩ g1 g2 g3 c.chans.toNat c.threads.toNat c.threads.toNat c.chans.toNat c.threads.toNat c.threads.toNat:=by exact WN
  obtain⟨a,t,f,e⟩:=bh P E (N.ah C.Y) (F.ah C.Y);clear P E La BQ Mp Q nj N F;obtain⟨l,-,I⟩:=ag.aF e;go_wp2_with fail;clear l I;have X:=ae (show(c.start.length:Int)<=c.chans from Z.Y);go_loopw[26] (λi wr=>∃j:Nat,j<=n/\i=j/\Hid (qZ wr (w.heap.size+2) ⟨0,C8 c c.chans.toNat j,List.replicate c.threads.toNat fU,List.replicate c.threads.toNat cE⟩ (some ⟨g1,0,none⟩) (some ⟨g2,0,none⟩) (some ⟨g3,0,none⟩) c.chans.toNat c.threads.toNat c.threads.toNat c.chans.toNat c.threads.toNat c.threads.toNat)/\Hid (ag wr p 45 #[oZ,.slice (some ⟨g1,0,none⟩) c.chans.toNat c.chans.toNat,.slice (some ⟨g2,0,none⟩) c.threads.toNat c.threads.toNat,.slice (some ⟨g3,0,none⟩) c.threads.toNat c.threads.toNat])/\Hid (ag wr (w.heap.size+1) 45 #[oZ,oN,oN,oN])/\Hid (Below w w wr)) (λi _=>n-(intOf i).toNat);case atStart=>exact⟨0,aZ _,rfl,a,t,f,o⟩
  case round =>
   clear a t f e o C;obtain⟨j,hj,rfl,a,t,u,o⟩:=hrel;obtain⟨aC,-,bb⟩:=ag.aF t;by_cases K:j<n
   .obtain⟨ad,z,hA,V,cz⟩:=bD.at_ (Y.below o) (i:=j) (by rw[<-G.Y];exact K);subst hA;have H:j<c.chans.toNat:=by have:=X.Y;have:=G.Y;omega
    have i2:(j:Int)<c.chans:=aa;obtain⟨y,U⟩:∃y,(C8 c c.chans.toNat j)[j]?=some y:=⟨_,cq (by rw[rM];exact H)⟩
    obtain⟨r,E,iX,hcell⟩:=a.ch.at_ U;obtain⟨D,dd,rfl,J,pS⟩:=E;have c0:=hcell 0 _ rfl;rw[Nat.add_zero]at c0;have c1:=hcell 1 _ rfl;have c2:=hcell 2 _ rfl;have c3:=hcell 3 _ rfl;have c4:=hcell 4 _ rfl;have f0:=a.ch.bq (j*5);have f1:=a.ch.bq (j*5+1);have f2:=a.ch.bq (j*5+2);have f3:=a.ch.bq (j*5+3);have f4:=a.ch.bq (j*5+4);have HZ:=ae V;clear hcell iX J pS U V;go_wp2_with fail;have L:=a.abw (i:=j) (by rw[rM];exact H) ⟨1,z,true,false,[]⟩ (B:=none) (d:=0) (aR _) (bD.nil _ _ _) (λb hb=>by cases hb);dsimp only at L;rw[<-Eu HZ.Y H]at L;obtain⟨eN,xy,iH,iY⟩:=bh L (aX t (b:=p) (g:=g1) aa [.int .i64 1,z,true,false,oN] (j*5)) (aX u (b:=w.heap.size+1) (g:=g1) aa [.int .i64 1,z,true,false,oN] (j*5)) (az (B:=w.heap.size) (g:=g1) aa [.int .i64 1,z,true,false,oN] _ (j*5) o);go_roundw;case rel=>exact⟨j+1,aa,by go_num,eN,xy,iH,iY⟩
    case measure=>simp[intOf];omega
   .have W:j=c.start.length:=by have:=G.Y;omega
    subst W;obtain⟨bN,cj,cu⟩:=ag.aF u;go_wp2_with fail;have iB:=aY (vs:=[oZ,.slice g1 c.chans.toNat c.chans.toNat,.slice g2 c.threads.toNat c.threads.toNat,.slice g3 c.threads.toNat c.threads.toNat]) u rfl;have vY:=a.b9 (q:=w.heap.size+1) aa u af af 0 [oZ,.slice g1 c.chans.toNat c.chans.toNat,.slice g2 c.threads.toNat c.threads.toNat,.slice g3 c.threads.toNat c.threads.toNat];have kN:=az (B:=w.heap.size) (g:=w.heap.size+1) aa [oZ,.slice g1 c.chans.toNat c.chans.toNat,.slice g2 c.threads.toNat c.threads.toNat,.slice g3 c.threads.toNat c.threads.toNat] _ 0 o;change bodyPost _ _ _ _ _ (ax wr (w.heap.size+1) 0 [oZ,.slice g1 c.chans.toNat c.chans.toNat,.slice g2 c.threads.toNat c.threads.toNat,.slice g3 c.threads.toNat c.threads.toNat]);clear bN cj cu aC bb;generalize ax wr (w.heap.size+1) 0 [oZ,.slice g1 c.chans.toNat c.chans.toNat,.slice g2 c.threads.toNat c.threads.toNat,.slice g3 c.threads.toNat c.threads.toNat]=wz at *;have fy:=λi=>ag.cell iB i;have hst:eb c=⟨0,C8 c c.chans.toNat c.start.length,List.replicate c.threads.toNat fU,List.replicate c.threads.toNat cE⟩:=by rw[JW];rfl
    have kL:Nx (eb c) w (.returned (.agg #[oZ,.slice g1 c.chans.toNat c.chans.toNat,.slice g2 c.threads.toNat c.threads.toNat,.slice g3 c.threads.toNat c.threads.toNat])) wz:=by exact WQ
    refine bodyPost_ret (v:=.agg #[oZ,.slice g1 c.chans.toNat c.chans.toNat,.slice g2 c.threads.toNat c.threads.toNat,.slice g3 c.threads.toNat c.threads.toNat]) ?_ rfl kL;simp[results,results130,go_sem,fy]
theorem zI{P:Prop}(h:P:=by with_reducible(repeat(first|assumption|exact Ext.start _|exact Ext.iD _ _|refine Ext.alloc ?_ _|refine Ext.set ?_ (by simp;try omega)))):P:=h
section
variable(w:World)
theorem lj(f:aV c=true)(l:n=c.start.length)(s:bD w .i64 A c.start):Calls prog 22 #[j8 c A n k] w λe w'=>e=.returned oZ/\Below w w w':=by go_fit (AZ w l s);rintro e w' ⟨r,rfl,h,a⟩;rw[h.2 f];exact⟨rfl,a⟩
theorem Qy(f:aV c=true)(l:n=c.start.length)(r:bD w .i64 A c.start):Calls prog 51 #[j8 c A n k] w λe w'=>e=.returned (eC c)/\Below w w w':=by
 have j:=ae (lj (w.alloc (dB c A n k)) f l (r.alloc _) (k:=k));have a:=Ju f;obtain⟨t,_⟩:=aO f;have q:c.chans*c.cap<=8*16:=Int.le_trans (Int.mul_le_mul_of_nonneg_right a.2.2.2 aa) (Int.mul_le_mul_of_nonneg_left aa af);have p:0<=c.chans*c.cap:=lI a.2.2.1 aa;have o:Hid (eC c=if c.kind=3 then 1+c.chans+c.chans*c.cap+4*c.threads else c.cap+1):=by unfold Hid eC;rw[f,au af,Int.mul_add];split<;>omega
 have x:IntKind.i64.wrap (1+c.chans)=1+c.chans:=bH _ aa;have y:IntKind.i64.wrap (c.chans*c.cap)=c.chans*c.cap:=bH _ aa;have z:IntKind.i64.wrap (1+c.chans+c.chans*c.cap)=1+c.chans+c.chans*c.cap:=bH _ aa;have B:IntKind.i64.wrap (4*c.threads)=4*c.threads:=bH _ aa;have C:IntKind.i64.wrap (1+c.chans+c.chans*c.cap+4*c.threads)=1+c.chans+c.chans*c.cap+4*c.threads:=bH _ aa;have D:IntKind.i64.wrap (c.cap+1)=c.cap+1:=bH _ aa;clear a t q p l r f;have g:(c.kind==3)=true\/(c.kind==3)=false:=by cases c.kind==3<;>simp
 have b:Hid ((c.kind==3)=decide (c.kind=3)):=rfl;rcases g with d|d
 all_goals
  have u:=ae d;unfold j8 at *;go_enter func51,ntmps51;go_wp2_with fail;refine j.mono ?_;rintro e v ⟨rfl,a⟩;have i:=ae (ah (aj (ai w) (dB c A n k)) a);have m:Hid (ag v w 24 #[c.kind,c.threads,c.chans,c.cap,c.nodes,c.aP,c.aB,c.tags,c.bw,c.bn,.slice A n k]):=(ag.new w _ _).ah a;clear a;obtain⟨s,-,E⟩:=ag.aF m;go_wp2;go_ret;rw[o.Y];refine⟨?_,i⟩;have h:=b.symm.trans u;simp only[eI,decide_eq_false_iff_not]at h;first|(rw[ay h];rfl)|(rw[au h];rfl)
theorem Ew(f:aV c=true)(l:n=c.start.length)(r:bD w .i64 A c.start):Calls prog 25 #[j8 c A n k] w λe w'=>e=.returned (bA c)/\Below w w w':=by
 have u:=ae (lj (w.alloc (dB c A n k)) f l (r.alloc _) (k:=k));have q:Hid (bA c=eC c+c.threads):=by unfold Hid bA;rw[f];rfl
 have d:=tS f;obtain⟨z,_⟩:=aO f;have a:=ae (λw' (b:Below w w w')=>Qy w' f l (r.below b) (k:=k));generalize eC c=s at q d a;have C:IntKind.i64.wrap (s+c.threads)=s+c.threads:=bH _ aa;clear l r f d z;unfold j8 at *;go_enter func25,ntmps25;go_wp2_with fail;refine u.mono ?_;rintro e g ⟨rfl,b⟩;have o:=ae (ah (aj (ai w) (dB c A n k)) b);have p:Hid (ag g w 24 #[c.kind,c.threads,c.chans,c.cap,c.nodes,c.aP,c.aB,c.tags,c.bw,c.bn,.slice A n k]):=(ag.new w _ _).ah b;clear b;obtain⟨j,-,y⟩:=ag.aF p;go_wp2_with fail;have v:=λh (m:Ext g h) i=>ag.cell (p.ah m.Y) i;have t:=ae (λh (m:Ext g h)=>a h (ah o m.Y));clear j y;go_region_held3(Ext g) (exact zI) (((with_reducible go_fit (t.Y _ (by assumption)));rintro e D ⟨rfl,x⟩;have B:=Ext.to (by assumption) x));all_goals
  clear v;go_wp2;go_ret;rw[q.Y];exact⟨rfl,ah o B.Y⟩
theorem Qz(f:aV c=true)(l:n=c.start.length)(r:bD w .i64 A c.start):Calls prog 36 #[j8 c A n k] w λe w'=>e=.returned (bX c)/\Below w w w':=by
 have h:=ae (lj (w.alloc (dB c A n k)) f l (r.alloc _) (k:=k));obtain⟨d,a,_⟩:=aO f;have o:c.threads*c.nodes<=64*64:=Int.mul_le_mul d.2 a.2 aa aa;have m:0<=c.threads*c.nodes:=lI aa aa;have j:Hid (bX c=c.threads*c.nodes+1):=by unfold Hid bX;rw[f,au af];omega
 have s:IntKind.i64.wrap (c.threads*c.nodes)=c.threads*c.nodes:=bH _ aa;have t:IntKind.i64.wrap (c.threads*c.nodes+1)=c.threads*c.nodes+1:=bH _ aa;clear d a o m l r f;unfold j8 at *;go_enter func36,ntmps36;go_wp2_with fail;refine h.mono ?_;rintro e q ⟨rfl,b⟩;have g:=ae (ah (aj (ai w) (dB c A n k)) b);have i:Hid (ag q w 24 #[c.kind,c.threads,c.chans,c.cap,c.nodes,c.aP,c.aB,c.tags,c.bw,c.bn,.slice A n k]):=(ag.new w _ _).ah b;clear b;obtain⟨p,-,u⟩:=ag.aF i;go_wp2;go_ret;rw[j.Y];exact⟨rfl,g⟩
theorem Ex(f:aV c=true)(r:n=c.start.length)(y:bD w .i64 A c.start):Calls prog 14 #[j8 c A n k] w λe w'=>e=.returned (bG c)/\Below w w w':=by
 have E:=ae (lj (w.alloc (dB c A n k)) f r (y.alloc _) (k:=k));obtain⟨C,h,_⟩:=aO f;have H:c.threads*c.nodes<=64*64:=Int.mul_le_mul C.2 h.2 (by omega) (by omega);have G:0<=c.threads*c.nodes:=lI (by omega) (by omega);have x:bX c=1+c.threads*c.nodes:=by unfold bX;rw[f,au (by decide)]
 have t:=tS f;have j:bA c=eC c+c.threads:=by unfold bA;rw[f];rfl
 obtain⟨g,u⟩:=av (λw' (a:Below w w w')=>Ew w' f r (y.below a) (k:=k)) (λw' (a:Below w w w')=>Qz w' f r (y.below a) (k:=k));have p:Hid (bG c=3+9*c.threads+bX c*(1+bA c)):=by unfold Hid bG bV;rw[f,au (by decide)];omega
 obtain⟨s,B⟩:∃s,s=bA c:=⟨_,rfl⟩
 obtain⟨d,z⟩:∃d,d=bX c:=⟨_,rfl⟩
 rw[<-B]at p g j;rw[<-z]at p u x;have F:d*(1+s)<=5000*2000:=Int.mul_le_mul (by omega) (by omega) (by omega) (by omega);have I:0<=d*(1+s):=lI (by omega) (by omega);have Q:IntKind.i64.wrap (9*c.threads)=9*c.threads:=bH _ (by omega);have R:IntKind.i64.wrap (3+9*c.threads)=3+9*c.threads:=bH _ (by omega);have S:IntKind.i64.wrap (1+s)=1+s:=bH _ (by omega);have T:IntKind.i64.wrap (d*(1+s))=d*(1+s):=bH _ (by omega);have U:IntKind.i64.wrap (3+9*c.threads+d*(1+s))=3+9*c.threads+d*(1+s):=bH _ (by omega);clear r y f B z C h H G x t j F I;unfold j8 at *;go_enter func14,ntmps14;go_wp2_with fail;go_fit E.Y;rintro e m ⟨rfl,a⟩;have o:=ae (ah (aj (ai w) (dB c A n k)) a);have v:Hid (ag m w 24 #[c.kind,c.threads,c.chans,c.cap,c.nodes,c.aP,c.aB,c.tags,c.bw,c.bn,.slice A n k]):=(ag.new w _ _).ah a;clear a;obtain⟨q,-,M⟩:=ag.aF v.Y;go_wp2_with fail;have J:=λb (l:Ext m b) i=>ag.cell (v.Y.ah l.Y) i;obtain⟨D,P⟩:=av (λb (l:Ext m b)=>g.Y b (ah o.Y l.Y)) (λb (l:Ext m b)=>u.Y b (ah o.Y l.Y));clear q M;go_region_held3(Ext m) (exact zI) (first
  |((with_reducible go_fit (D.Y _ (by assumption)));rintro e V ⟨rfl,K⟩;have N:=Ext.to (by assumption) K)
  |((with_reducible go_fit (P.Y _ (by assumption)));rintro e W ⟨rfl,L⟩;have O:=Ext.to (by assumption) L))
 all_goals
  clear J;go_wp2;go_ret;rw[p.Y];first|exact⟨rfl,ah o.Y N.Y⟩|exact⟨rfl,ah o.Y O.Y⟩
theorem Mq(l:n=c.start.length)(f:bD w .i64 A c.start):Calls prog 13 #[j8 c A n k] w λe w'=>∃r,e=.returned (.int .i64 r)/\(r=0->aV c=true/\bG c<=1048576)/\Below w w w':=by
 obtain⟨q,p⟩:=av (AZ (w.alloc (dB c A n k)) l (f.alloc _) (k:=k)) (λw' (v:aV c=true) (a:Below w w w')=>Ex w' v l (f.below a) (k:=k));clear l f;unfold j8 at *;go_enter func13,ntmps13;go_wp2_with fail;refine q.mono ?_;rintro e o ⟨r,rfl,f,a⟩;have b:=ae (ah (aj (ai w) (dB c A n k)) a);have s:Hid (ag o w 24 #[c.kind,c.threads,c.chans,c.cap,c.nodes,c.aP,c.aB,c.tags,c.bw,c.bn,.slice A n k]):=(ag.new w _ _).ah a;clear a;obtain⟨i,-,u⟩:=ag.aF s;by_cases d:r=0
 .have j:=ae (f.1 d);subst d;clear f;go_wp2_with fail;go_fit (p o j b);rintro e x ⟨rfl,a⟩;have m:=ae (ah b a);clear a i u;by_cases g:bG c<=1048576
  .have d1:decide (1048576<bG c)=false:=bF aa;have t:=ae g;clear g;go_wp2;go_ret;exact⟨0,rfl,λ_=>⟨j,t⟩,m⟩
  .have d1:decide (1048576<bG c)=true:=cg aa;clear g;go_wp2;go_ret;exact⟨4,rfl,λh=>absurd h af,m⟩
 .have d1:(r !=0)=true:=by simpa using d
  clear f;go_wp2;go_ret;exact⟨1,rfl,λh=>absurd h af,b⟩
end
def RwS(w:World)(b:Nat):Prop:=Ty w 50 b\/Ty w 99 b\/Ty w 64 b
structure wu (w:World) (h:Mo.Hl) (A1 A2 A3:Option Addr):Prop where
 ch:lV w A1 h.chans
 wt:ez w A2 h.waits
 dn:cN w fD A3 h.done
 ty:∀ad,A1=some ad\/A2=some ad\/A3=some ad->RwS w ad.block
theorem wu.ext(H:wu w h A1 A2 A3)(f:Below w w w'):wu w' h A1 A2 A3:=⟨jv.gK cd H.ch f,jv.gK aI H.wt f,H.dn.below f,λad e=>(H.ty ad e).imp (·.below f) (·.imp (·.below f) (·.below f))⟩
theorem jv.b9(g:Good P){C:List α}(h:jv m P w (eP w) A C)(hq:¬eP w q)(E:∀a,A=some a->a.block≠q)(f:∀b,b≠q->w'.heap[b]?=w.heap[b]?):jv m P w' (eP w') A C:=by
 obtain⟨rows,k,l,n⟩:=h;have jD:Sm (eP w) w w':=λb hb=>f b λe=>hq (e▸hb);have c:∀b,eP w b->eP w' b:=λb hb=>by exact Ey
 exact⟨rows,k,Rd.same (S:=λb=>b≠q) (λb hb=>f b hb) l (λa e _=>E a e),λi r x d j=>g.1 c (g.2 jD (n i r x d j))⟩
theorem wu.b9{t:TypeId}{F:Array Value}(H:wu w h A1 A2 A3)(E:ag w q t F)(r:t≠3/\t≠101/\t≠50/\t≠99/\t≠64)(C:∀b,b≠q->w'.heap[b]?=w.heap[b]?):wu w' h A1 A2 A3:=by
 have l:¬eP w q:=eP.not E r.1 r.2.1;have a:∀ad,A1=some ad\/A2=some ad\/A3=some ad->ad.block≠q:=λad e f=>by
  have i:w.heap[q]?=_:=E
  rcases H.ty ad e with⟨d,c,k⟩|⟨d,c,k⟩|⟨d,c,k⟩<;>rw[f,i]at k<;>injection k with k<;>injection k with _ k
  .exact r.2.2.1 k
  .exact r.2.2.2.1 k
  .exact r.2.2.2.2 k
 have j:∀{e b},b≠q->Ty w e b->Ty w' e b:=λg ⟨d,c,k⟩=>⟨d,c,(C _ g).trans k⟩
 exact⟨H.ch.b9 cd l (λad e=>a ad (.inl e)) C,H.wt.b9 aI l (λad e=>a ad (.inr (.inl e))) C,Rd.same (S:=λb=>b≠q) (λb g=>C b g) H.dn (λad e _=>a ad (.inr (.inr e))),
  λad e=>(H.ty ad e).imp (j (a ad e)) (·.imp (j (a ad e)) (j (a ad e)))⟩
abbrev rZ (E:Int) (f:Option Addr) (s m1:Nat) (l:Option Addr) (y m2:Nat) (r:Option Addr) (C m3:Nat):Array Value:=#[E,.slice f s m1,.slice l y m2,.slice r C m3]
theorem Hn(w:World)(hn:n=c.start.length)(hr:bD w .i64 A c.start)(F:kJ c h)(H:wu w h A1 A2 A3)(h1:n1=h.chans.length)(h2:n2=h.waits.length)(h3:n3=h.done.length) :
 Calls prog 48 #[j8 c A n k,.agg (rZ h.ak A1 n1 m1 A2 n2 m2 A3 n3 m3)] w λe w'=>e=.returned true/\Below w w w':=by
 obtain⟨W,Z⟩:=aw ((w.alloc (dB c A n k)).alloc (.cells (rZ h.ak A1 n1 m1 A2 n2 m2 A3 n3 m3) 45))
 have V:Below w w W:=by rw[Z];exact aj (aj (ai w) _) _
 have HC:=ae (lj W F.ee hn (hr.below V) (k:=k))
 have hk:(c.kind !=3)=false:=by rw[bne_eq_false_iff_eq];exact F.kind
 have q1:iN h.ak 0 4294967295=true:=cg F.tick
 have q2:((n1:Int) !=c.chans)=false:=by rw[bne_eq_false_iff_eq,h1];exact F.Fm
 have q3:((n2:Int) !=c.threads)=false:=by rw[bne_eq_false_iff_eq,h2];exact F.I5
 obtain⟨ht,-,-,-,-,-,lc,R8⟩:=Mo.aO F.ee
 have HV:=ae (λK (f:Below W W K)=>GS K A3 m3 h.done h3 (by have:=F.zo;omega) ((H.dn.below V).below f) (m:=c.threads) (by unfold pN;rw[cg F.zo];exact List.all_eq_true.2 F.dn))
 have b1:n1<=64:=by have:=F.Fm;omega
 have b2:n2<=64:=by have:=F.I5;omega
 obtain⟨vU,a6,HF,HH,HI⟩:=bQ h1 h2 F (H.ext V) (λK x a b=>nk K x a b)
 have K1:Hid (ag W w 24 #[c.kind,c.threads,c.chans,c.cap,c.nodes,c.aP,c.aB,c.tags,c.bw,c.bn,.slice A n k]):=by rw[Z];exact(ag.new w _ _).alloc _
 have K2:Hid (ag W (w.heap.size+1) 45 (rZ h.ak A1 n1 m1 A2 n2 m2 A3 n3 m3)):=by rw[Z];exact ag.newAt _ _ _ (by simp)
 obtain⟨HB,HW⟩:=av V Z
 clear hn hr F H h1 h2 h3 V Z
 unfold j8 at *
 go_enter func48,ntmps48
 go_upto_region 1 with fail
 rw[<-HW.Y]
 obtain⟨q,OG,E⟩:=ag.aF K1.Y
 obtain⟨l,a7,o⟩:=ag.aF K2.Y
 go_wp2_with fail
 go_fit HC.Y
 rintro e w1 ⟨rfl,f⟩
 have HV:=ae (HV.Y w1 f)
 have HJ:=ae (HI.Y w1 h.ak 0 4294967295)
 rw[q1]at HJ
 obtain⟨M,br,pF,p⟩:=bh (HH.Y.ext f) (ah HB.Y f) (K1.Y.ah f) (K2.Y.ah f)
 clear f q OG E l a7 o
 obtain⟨q,-,E⟩:=ag.aF pF.Y
 obtain⟨l,-,o⟩:=ag.aF p.Y
 go_wp2_with fail
 go_fit HJ.Y
 rintro e w' ⟨rfl,rfl⟩
 go_wp2_with fail
 go_fit HV.Y
 rintro e w2 ⟨rfl,f⟩
 obtain⟨jL,bB,X,Y⟩:=bh (M.Y.ext f) (ah br.Y f) (pF.Y.ah f) (p.Y.ah f)
 clear f q E l o
 obtain⟨q,-,E⟩:=ag.aF X.Y
 obtain⟨l,-,o⟩:=ag.aF Y.Y
 go_wp2_with fail
 clear hk q1 q2 q3 HJ HV HC HI K1 K2 pF p M br HH HB HW
 go_loopw[50] (λi wr=>∃k:Nat,k<=n1/\i=k/\Hid (Below w2 w2 wr)) (λi _=>n1-(intOf i).toNat)
 case atStart=>exact⟨0,aZ _,rfl,ai _⟩
 case round =>
  obtain⟨j,hj,rfl,L⟩:=hrel;clear q E l o;obtain⟨pF,p,M⟩:=aS (X.Y.ah L.Y) (Y.Y.ah L.Y) (jL.Y.ext L.Y);by_cases z:j<n1
  .obtain⟨x,D⟩:∃x,h.chans[j]?=some x:=⟨_,cq (by rw[<-vU.Y];exact z)⟩
   obtain⟨ad,B,d,hA,-,f,G,Q,R,S,e4⟩:=M.Y.ch.row D;subst hA;obtain⟨T,U,I,v⟩:=cK.1 (HF.Y.ch x (cH D));obtain⟨t,g⟩:=aw (wr.alloc (oW x B x.buf.length d));have u:=ae (aj (ai wr) (oW x B x.buf.length d));rw[<-g]at u;obtain⟨q,-,E⟩:=ag.aF (pF.Y.ah u.Y);obtain⟨l,-,o⟩:=ag.aF (p.Y.ah u.Y);have K5:Hid (ag t wr 50 #[x.gen,x.cap,x.used,x.closed,.slice B x.buf.length d]):=by rw[g];exact ag.new _ _ _
   obtain⟨r,-,Mr⟩:=ag.aF K5.Y;obtain⟨N,O,P⟩:=aS (nk t x.gen 0 4095) (nk t x.cap 0 c.cap) (GR t B d x.buf rfl (by omega) (f.below u.Y) (m:=x.cap) (by unfold jN;rw[cg I.1];exact List.all_eq_true.2 λy hy=>cg (I.2 y hy)));rw[show iN x.gen 0 4095=true from cg T]at N;rw[show iN x.cap 0 c.cap=true from cg U]at O;have J:=ae g;clear D f T U I g;generalize x.buf.length=bl at *;go_upto_region 6 with fail
   rw[<-J.Y];clear G Q R S e4;go_wp2_with fail;go_fit N.Y;rintro e w' ⟨rfl,rfl⟩;go_wp2_with fail;go_fit O.Y;rintro e w' ⟨rfl,rfl⟩;go_wp2_with fail;go_fit P.Y;rintro e w' ⟨rfl,rfl⟩;have HR':=ae (ah L.Y u.Y);rcases v with v|⟨v,g5⟩
   .rw[v]at r;go_wp2_with fail;exact QA
   .rw[v,g5]at r;go_wp2_with fail;all_goals
     exact QA
  .obtain⟨l,-,o⟩:=ag.aF p.Y;go_wp2_with fail;clear l o;go_loopw[90] (λi K=>∃k:Nat,k<=n2/\i=k/\Hid (Below wr wr K)) (λi _=>n2-(intOf i).toNat);case atStart=>exact⟨0,aZ _,rfl,ai _⟩
   case round =>
    obtain⟨j,hj,rfl,HS⟩:=hrel;by_cases z:j<n2
    .obtain⟨x,D⟩:∃x,h.waits[j]?=some x:=⟨_,cq (by rw[<-a6.Y];exact z)⟩
     obtain⟨ad,B,d,hA,-,f,G,Q,R,S⟩:=(M.Y.ext HS.Y).wt.row D;subst hA;have s:=kW.1 (HF.Y.wt x (cH D));obtain⟨t,g⟩:=aw (wr.alloc (.cells #[x.on,x.ak,x.seq,.slice B x.cases.length d] 99));have u:=ae (aj (ai wr) (.cells #[x.on,x.ak,x.seq,.slice B x.cases.length d] 99));rw[<-g]at u;have K5:Hid (ag t wr 99 #[x.on,x.ak,x.seq,.slice B x.cases.length d]):=by rw[g];exact ag.new _ _ _
     obtain⟨r,-,Mr⟩:=ag.aF K5.Y;have HR':=ae (ah HS.Y u.Y);have J:=ae g;clear D g;rcases C:x.on with _|_
     .rw[ay C]at s;rw[C,s.1,s.2.1,s.2.2]at r J;rw[C]at G;rw[s.1]at Q;rw[s.2.1]at R;rw[s.2.2]at S;clear s C f;go_upto_region 14 with fail
      rw[<-J.Y];clear G Q R S;go_wp2_with fail;exact QA
     .rw[au (by rw[C];decide)]at s;rw[C]at r J G;obtain⟨T,U,I,v⟩:=s;have d1:((x.cases.length:Int)==0)=false:=by rw[dp];omega
      obtain⟨N,O,P⟩:=aS (nk t x.ak 0 4294967295) (nk t x.seq 0 1048575) (Bd t ⟨3,0,0,false,x.cases⟩ B d (n:=x.cases.length) rfl (by omega) (f.below u.Y));rw[show iN x.ak 0 4294967295=true from cg T]at N;rw[show iN x.seq 0 1048575=true from cg U]at O;rw[show Mo.bt ⟨3,0,0,false,x.cases⟩=true from gY.2 ⟨⟨by dsimp only;omega,by dsimp only;omega⟩,⟨ek _,by dsimp only;omega⟩,⟨ek _,by dsimp only;omega⟩,I.2,v⟩]at P;dsimp only at P;clear T U I v C f;generalize x.cases.length=bl at *;go_upto_region 14 with fail
      rw[<-J.Y];clear G Q R S;go_wp2_with fail;go_fit N.Y;rintro e w' ⟨rfl,rfl⟩;go_wp2_with fail;go_fit O.Y;rintro e w' ⟨rfl,rfl⟩;go_wp2_with fail;go_fit P.Y;rintro e w4 ⟨rfl,aq⟩;have kG:=ae (ah HR'.Y aq);clear aq;go_wp2_with fail;go_roundw;case rel=>exact⟨j+1,by omega,by go_num,kG⟩
      case measure=>simp[intOf];omega
    .go_wp2_with fail;go_ret;exact⟨rfl,ah bB.Y (ah L.Y HS.Y)⟩
def Ow(w wr:World)(v:Value)(f:List Int)(N:Nat):Prop:=Below w w wr/\aK wr w 69 .u64 v f/\f.length<=N
theorem Ow.ext{l:List Int}(H:Ow w a v l N)(f:Below a a b):Ow w b v l N:=⟨ah H.1 f,H.2.1.ah f,H.2.2⟩
theorem Ow.le{f:List Int}{M:Nat}(H:Ow w a v f N)(h:N<=M):Ow w a v f M:=⟨H.1,H.2.1,bm H.2.2 h⟩
def pW(a b:World):Prop:=∀g t ys,69≠t->ag a g t ys->ag b g t ys
theorem Ow.grown{r:Value}{f:List Int}{z:Int}(H:Ow w a v f N)(y:aK w' w 69 .u64 r (f++[z]))(l:a.grownBy w' v.ownBlock):Ow w w' r (f++[z]) (N+1)/\pW a w':=⟨⟨H.2.1.aW H.1 l H.1.size (aR _),y,by have:=H.2.2;simp;omega⟩,λ_ _ _ c b=>b.grown l (ba H.2.1 b c)⟩
theorem oQ{rest:List Oper}{o:Oper}{a:Act}{Q:Exit->Act->World->Prop}{r:List Int}{z:Int}(l:o.guard=none)(s x:Operand)(y:o.op=.call {callee:=.builtin .append,args:=#[s,x],argTypes:=#[30,30]})(H:Ow w wr v r N)(f:Below wr wr W)(E:a.eval s=v)(F:a.eval x=.slice g 1 1)(C:bD W .u64 g [z])(G:N<=1000)(h:∀b w',Hid (Ow w w' b (r++[z]) (N+1))->Hid (pW W w')->wpList prog ops Q rest (a.put o.dst b) w'):wpList prog ops Q (o::rest) a W:=bS W l s x _ y w 69 .u64 underlying30 uM v r E (H.ext f).2.1 _ 1 1 [z] F rfl C (by have:=H.2.2;simp;omega) (H.ext f).1.size λb w' c d _=>((H.ext f).grown c d).elim (h b w')
theorem pW.of(h:Below a a b):pW a b:=λ_ _ _ _ k=>k.ah h
theorem pW.trans{d:World}(h:pW a b)(k:pW b d):pW a d:=λg t c n q=>k g t c n (h g t c n q)
theorem pW.start(a:World):pW a a.drew:=.of (ai a).drew
theorem pW.iD(a:World)(o:Obj):pW a (a.alloc o).drew:=.of (aj (ai a) o).drew
theorem pW.alloc(h:pW a b)(o:Obj):pW a (b.alloc o):=h.trans (.of (aj (ai b) o))
theorem pW.cell(h:pW a b){t:TypeId}{f:Array Value}(k:ag a g t f)(l:69≠t)(i:Nat):b.cell? ⟨g,i,none⟩=f[i]?:=ag.cell (h g t f l k) i
theorem JX{o:Oper}{a:Act}{K:Act->World->Prop}{Q:Exit->Act->World->Prop}{E:Prop}{r:List Int}{z:Int}(l:o.guard=none)(s x:Operand)(y:o.op=.call {callee:=.builtin .append,args:=#[s,x],argTypes:=#[30,30]})(H:Ow w wr v r N)(F:a.eval s=v)(G:a.eval x=.slice g 1 1)(I:N<=1000)(C:bD W .u64 g [z])(f:Below wr wr W)(h:∀b w',Hid (Ow w w' b (r++[z]) (N+1))->Hid (pW W w')->K (a.put o.dst b) w'):if Region.wanted o (yielded ops a.tmps)=true then Oper.wp prog o a W K Q else E:=mE l s x _ y w 69 .u64 underlying30 uM v r F (H.ext f).2.1 _ 1 1 [z] G rfl C (by have:=H.2.2;simp;omega) (H.ext f).1.size λb w' c d _=>((H.ext f).grown c d).elim (h b w')
theorem vr(w:World)(hn:n=c.start.length)(hr:bD w .i64 A c.start)(F:kJ c h)(H:wu w h A1 A2 A3)(h1:n1=h.chans.length)(h2:n2=h.waits.length)(h3:n3=h.done.length) :
 Calls prog 23 #[j8 c A n k,.agg (rZ h.ak A1 n1 m1 A2 n2 m2 A3 n3 m3)] w (uN (gI c h) w):=by
 obtain⟨W,hW⟩:=aw ((w.alloc (dB c A n k)).alloc (.cells (rZ h.ak A1 n1 m1 A2 n2 m2 A3 n3 m3) 45))
 have hB:Below w w W:=by rw[hW];exact aj (aj (ai w) _) _
 have mf:=ae (Hn W hn (hr.below hB) F (H.ext hB) h1 h2 h3 (k:=k) (m1:=m1) (m2:=m2) (m3:=m3))
 obtain⟨ht,-,-,-,-,-,-,R8⟩:=Mo.aO F.ee
 have lc:=xk (gb.2 F)
 have b1:n1<=8:=by have:=F.Fm;omega
 have b2:n2<=64:=by have:=F.I5;omega
 have b3:n3<=64:=by have:=F.zo;omega
 have u:IntKind.u64.wrap h.ak=h.ak:=by rw[cA];have:=F.tick;omega
 obtain⟨vU,bz,Jw,HF,HH⟩:=bQ h1 h2 h3 F H
 have K1:Hid (ag W w 24 #[c.kind,c.threads,c.chans,c.cap,c.nodes,c.aP,c.aB,c.tags,c.bw,c.bn,.slice A n k]):=by rw[hW];exact(ag.new w _ _).alloc _
 have K2:Hid (ag W (w+1) 45 (rZ h.ak A1 n1 m1 A2 n2 m2 A3 n3 m3)):=by rw[hW];exact ag.newAt _ _ _ aA
 obtain⟨HB,HW⟩:=av hB hW
 clear hn hr F H h1 h2 h3 hB hW
 unfold j8 at *
 go_enter func23,ntmps23
 go_upto_region 1 with fail
 rw[<-HW.Y]
 obtain⟨S,OG,Ca⟩:=ag.aF K1.Y
 obtain⟨l,b8,m⟩:=ag.aF K2.Y
 go_wp2_with fail
 go_fit mf.Y
 rintro e w1 ⟨rfl,G⟩
 obtain⟨br,O,b⟩:=aS (ah HB G) (K1.ah G) (K2.ah G)
 clear G S OG Ca l b8 m mf HB HW K1 K2
 obtain⟨S,-,Ca⟩:=ag.aF O.Y
 obtain⟨l,-,m⟩:=ag.aF b.Y
 go_upto_region 4 with fail
 have a:Hid (Ow w (w1.alloc (.cells #[.int .u64 h.ak] 69)) (.slice w1 1 1) [h.ak] 1):=⟨aj br _,(aK.aaJ w1 _ _ _).bL br.size,aR _⟩
 have hX:=aj (ai w1) (.cells #[.int .u64 h.ak] 69)
 obtain⟨O,b⟩:=av (O.Y.ah hX) (b.Y.ah hX)
 clear hX S Ca l m u
 generalize w1.alloc (.cells #[.int .u64 h.ak] 69)=V1 at O b a ⊢
 obtain⟨S,-,Ca⟩:=ag.aF O.Y
 obtain⟨l,-,m⟩:=ag.aF b.Y
 go_wp2_with fail
 clear S Ca l m
 go_loopw[5,26] (λv i wr=>∃j:Nat,j<=n1/\i=j/\∃z,v=z/\Hid (Ow w wr z (h.ak::(h.chans.take j).flatMap (iZ c)) (1+9*j))/\Hid (ag wr w 24 #[c.kind,c.threads,c.chans,c.cap,c.nodes,c.aP,c.aB,c.tags,c.bw,c.bn,.slice A n k])/\Hid (ag wr (w+1) 45 (rZ h.ak A1 n1 m1 A2 n2 m2 A3 n3 m3))) (λ_ i _=>n1-(intOf i).toNat)
 case atStart=>exact⟨0,aZ _,rfl,_,rfl,a,O,b⟩
 case round =>
  clear a O b;obtain⟨j,hj,rfl,z,rfl,a,O,b⟩:=hrel;by_cases t:j<n1
  .obtain⟨x,r⟩:∃x,h.chans[j]?=some x:=⟨_,cq (by rw[<-vU.Y];exact t)⟩
   obtain⟨ad,B,d,hA,-,G,I,u,J,E,e4⟩:=HH.ch.row r;subst hA;have I:=(Below.cell a.1 (bc I)).trans I;have u:=(Below.cell a.1 (bc u)).trans u;have J:=(Below.cell a.1 (bc J)).trans J;have E:=(Below.cell a.1 (bc E)).trans E;have e4:=(Below.cell a.1 (bc e4)).trans e4;obtain⟨g1,g2,g3,-⟩:=cK.1 (HF.ch x (cH r));obtain⟨D,f⟩:=aw (wr.alloc (oW x B x.buf.length d));have bU:=ae (aj (ai wr) (oW x B x.buf.length d));rw[<-f]at bU;have V:Hid (ag D wr 50 #[x.gen,x.cap,x.used,x.closed,.slice B x.buf.length d]):=by rw[f];exact ag.new _ _ _
   obtain⟨bE,-,Mr⟩:=ag.aF V;have oL:=ae f;clear f;obtain⟨p,g⟩:=aw x.buf.length;rw[<-g]at oL e4 V bE;obtain⟨fu,a6⟩:=aw (Mo.flag x.used);obtain⟨fc,Sp⟩:=aw (Mo.flag x.closed);obtain⟨Z,hZ⟩:=aw (r5 x);obtain⟨IU,IC⟩:=av (λs=>Go.Proofs.YtpfbfhfcbdbglaaGreat.u7 s x.used) (λs=>Go.Proofs.YtpfbfhfcbdbglaaGreat.u7 s x.closed);rw[<-a6]at IU;rw[<-Sp]at IC;have k0:0<=fu/\fu<=1/\0<=fc/\fc<=1:=by rw[a6,Sp];unfold Mo.flag;split<;>split<;>omega
   have k1:IntKind.u64.wrap x.gen=x.gen:=by rw[cA];omega
   have k2:IntKind.u64.wrap x.cap=x.cap:=by rw[cA];omega
   have k3:IntKind.u64.wrap (4096*x.cap)=4096*x.cap:=by rw[cA];omega
   have k4:IntKind.u64.wrap (x.gen+4096*x.cap)=x.gen+4096*x.cap:=by rw[cA];omega
   have k5:IntKind.u64.wrap (65536*fu)=65536*fu:=by rw[cA];omega
   have k6:IntKind.u64.wrap (x.gen+4096*x.cap+65536*fu)=x.gen+4096*x.cap+65536*fu:=by rw[cA];omega
   have k7:IntKind.u64.wrap (131072*fc)=131072*fc:=by rw[cA];omega
   have k8:IntKind.u64.wrap (x.gen+4096*x.cap+65536*fu+131072*fc)=x.gen+4096*x.cap+65536*fu+131072*fc:=by rw[cA];omega
   have k9:IntKind.u64.wrap (p:Int)=p:=by rw[cA];omega
   have ct:IntKind.u64.wrap (1048576*(p:Int))=1048576*(p:Int):=by rw[cA];omega
   have cv:IntKind.u64.wrap (x.gen+4096*x.cap+65536*fu+131072*fc+1048576*(p:Int))=Z:=by rw[cA,hZ,r5, <-a6, <-Sp, <-g];omega
   have j5:=ae (a.ext bU);obtain⟨fW,HZ⟩:=av g hZ;obtain⟨HG,TP⟩:=av g3 G;clear k0 a6 Sp hZ g g1 g2 g3 G;go_upto_region 7 with fail
   rw[<-oL.Y];clear I u J E e4;obtain⟨L,R⟩:=aw (h.ak::(h.chans.take j).flatMap (iZ c));rw[<-R]at j5;obtain⟨HL,HX⟩:=av R r;have X:=λs (r:pW D s) i=>r.cell V af i;clear bE R r;go_cut[5,26]from 26 to 80 (λs5 cw s=>cw=j/\Hid (Ow w s s5 (L++[Z]) (1+9*j+1))/\Hid (pW D s));case first =>
    go_region_held3(pW D) (with_reducible(first|assumption|exact pW.start _|exact pW.iD _ _|exact pW.alloc aN _)) (first
     |((with_reducible go_fit (IU.Y _));rintro e w' ⟨rfl,rfl⟩)
     |((with_reducible go_fit (IC.Y _));rintro e w' ⟨rfl,rfl⟩)
     |(refine JX rfl _ _ rfl j5 rfl rfl aa (bD.one _ .u64 _ _) ?_ ?_;(exact(aj (ai _) _).drew);intro v4 w4 Ho a8;have P:=pW.trans aN a8.Y))
    all_goals
     go_wp2;go_meet;exact⟨rfl,Ho.Y,P⟩
   case rest =>
    obtain⟨rfl,Ho,P⟩:=hcut;clear k1 k2 k3 k4 k5 k6 k7 k8 k9 ct cv;have Gi:=ae ((O.Y.ah bU:ag D w _ _));obtain⟨X,-,iM⟩:=ag.aF (P.Y _ _ _ af V);obtain⟨aq,-,a7⟩:=ag.aF (P.Y _ _ _ af Gi.Y);go_wp2_with fail;clear X iM aq a7;obtain⟨w5,CZ⟩:=aw wr;go_loopw[5,8] (λv i wr=>∃q:Nat,(q:Int)<=c.cap/\i=q/\∃z,v=z/\Hid (Ow w wr z (L++[Z]++(kH x.buf c.cap.toNat).take q) (2+9*j+q))/\Hid (pW D wr)) (λ_ i _=>c.cap.toNat-(intOf i).toNat);case atStart=>exact⟨0,aa,rfl,_,rfl,by unfold Hid;rw[List.take_zero,List.append_nil];exact Ho.Y.le aa,P⟩
    case round =>
     clear Ho P;obtain⟨q,hq,rfl,z,rfl,a,Q⟩:=hrel;obtain⟨X,-,iM⟩:=ag.aF (Q _ _ _ af V);obtain⟨aq,-,a7⟩:=ag.aF (Q _ _ _ af Gi.Y);by_cases t:(q:Int)<c.cap
     .obtain⟨M,hM⟩:=aw (L++[Z]++(kH x.buf c.cap.toNat).take q);rw[<-hM]at a;have U:∀y,(kH x.buf c.cap.toNat)[q]?=some y->Hid (L++[Z]++(kH x.buf c.cap.toNat).take (q+1)=M++[y]):=λy h=>by unfold Hid;rw[hM,List.take_add_one,h];simp
      clear hM;by_cases Ms:q<p
      .obtain⟨y,hy⟩:∃y,x.buf[q]?=some y:=⟨_,cq (by rw[<-fW.Y];exact Ms)⟩
       obtain⟨b7,y',hA,Aw,K⟩:=bD.at_ (TP.below a.1) (i:=q) (by rw[<-fW.Y];exact Ms);cases hy.symm.trans Aw
       subst hA;have k1:IntKind.u64.wrap y=y:=by rw[cA];have:=HG.2 y (cH hy);omega
       have U:=U y (by unfold kH;rw[List.getElem?_append_left (by rw[fK, <-fW.Y];omega),List.getElem?_take,ay aa,hy]);clear hy Aw;go_wp2_with(at_builtin;refine oQ rfl _ _ rfl a (aj (ai _) _) rfl rfl (bD.one _ .u64 _ _) aa ?_)
       intro v5 w5 lh C;have zJ:=ae (Q.trans ((pW.of (aj (ai _) _)).trans C.Y));rw[<-U.Y]at lh;clear C X iM aq a7 K k1;exact JY
      .have U:=U 0 (by unfold kH;rw[List.getElem?_append_right (by rw[fK, <-fW.Y];omega),List.getElem?_replicate,ay (by rw[fK, <-fW.Y];omega)]);go_wp2_with(at_builtin;refine oQ rfl _ _ rfl a (aj (ai _) _) rfl rfl (bD.one _ .u64 _ _) aa ?_)
       intro v5 w5 lh C;have zJ:=ae (Q.trans ((pW.of (aj (ai _) _)).trans C.Y));rw[<-U.Y]at lh;clear C X iM aq a7;exact JY
     .have o:∀v,Ow w wr v (L++[Z]++(kH x.buf c.cap.toNat).take q) (2+9*j+q)->Hid (Ow w wr v (h.ak::(h.chans.take (j+1)).flatMap (iZ c)) (1+9*(j+1))):=λv H=>by
       unfold Hid
       rw[rD _ HX.Y,iZ, <-HZ.Y, <-List.cons_append, <-HL.Y, <-List.singleton_append, <-List.append_assoc]
       rw[List.take_of_length_le (by rw[oz];omega)]at H
       exact H.le aa
      have o:=o _ a
      obtain⟨O,b⟩:=av (Q _ _ _ af Gi.Y) (Q _ _ _ af (b.Y.ah bU))
      go_wp2
      go_roundw
      case rel=>exact⟨j+1,aa,by go_num,_,rfl,o,O,b⟩
      case measure=>simp[intOf];omega
  .obtain⟨M,hM⟩:=aw (h.ak::h.chans.flatMap (iZ c));have o:∀v,Ow w wr v (h.ak::(h.chans.take j).flatMap (iZ c)) (1+9*j)->Hid (Ow w wr v M 73):=λv H=>by
    unfold Hid
    rw[List.take_of_length_le (by rw[<-vU.Y];omega), <-hM]at H
    exact H.le aa
   have a:=o _ a;have HM:=ae hM;obtain⟨l,-,m⟩:=ag.aF b.Y;clear hM o;go_wp2_with fail;clear l m;go_loopw[5,84] (λv i wr=>∃j:Nat,j<=n2/\i=j/\∃z,v=z/\Hid (Ow w wr z (M++(h.waits.take j).flatMap iJ) (73+4*j))/\Hid (ag wr (w+1) 45 (rZ h.ak A1 n1 m1 A2 n2 m2 A3 n3 m3))) (λ_ i _=>n2-(intOf i).toNat);case atStart=>exact⟨0,aZ _,rfl,_,rfl,by unfold Hid;rw[List.take_zero,List.flatMap_nil,List.append_nil];exact a.Y,b⟩
   case round =>
    clear a b O;obtain⟨j,hj,rfl,z,rfl,a,b⟩:=hrel;by_cases t:j<n2
    .obtain⟨x,r⟩:∃x,h.waits[j]?=some x:=⟨_,cq (by rw[<-bz.Y];exact t)⟩
     obtain⟨ad,B,d,hA,-,G,I,u,J,E⟩:=HH.wt.row r;subst hA;have I:=(Below.cell a.1 (bc I)).trans I;have u:=(Below.cell a.1 (bc u)).trans u;have J:=(Below.cell a.1 (bc J)).trans J;have E:=(Below.cell a.1 (bc E)).trans E;have hw:=HF.wt x (cH r);obtain⟨D,f⟩:=aw (wr.alloc (.cells #[x.on,x.ak,x.seq,.slice B x.cases.length d] 99));have bU:=ae (aj (ai wr) (.cells #[x.on,x.ak,x.seq,.slice B x.cases.length d] 99));rw[<-f]at bU;have V:Hid (ag D wr 99 #[x.on,x.ak,x.seq,.slice B x.cases.length d]):=by rw[f];exact ag.new _ _ _
     have oL:=ae f;clear f;obtain⟨p,g⟩:=aw x.cases.length;rw[<-g]at oL E V;obtain⟨g1,g2,g3,g4⟩:=sI (gb.2 HF) (cH r);have hm:=(gY.1 g4).2.2.2.2;obtain⟨fo,Ez⟩:=aw (Mo.flag x.on);obtain⟨T,hT⟩:=aw (x.cases.map Mo.lY++List.replicate (3-x.cases.length) 0);obtain⟨Z,hZ⟩:=aw (fo+(p:Int)*2+x.seq*16+x.ak*4294967296);have b6:Hid (iJ x=Z::T):=by unfold Hid iJ;rw[hZ,hT,Ez,g]
     have IU:=ae (λs=>Go.Proofs.YtpfbfhfcbdbglaaGreat.u7 s x.on);rw[<-Ez]at IU;have k0:0<=fo/\fo<=1:=by rw[Ez];unfold Mo.flag;split<;>omega
     have k1:IntKind.u64.wrap (p:Int)=p:=by rw[cA];omega
     have k2:IntKind.u64.wrap (2*(p:Int))=2*(p:Int):=by rw[cA];omega
     have k3:IntKind.u64.wrap (fo+2*(p:Int))=fo+2*(p:Int):=by rw[cA];omega
     have k4:IntKind.u64.wrap x.seq=x.seq:=by rw[cA];omega
     have k5:IntKind.u64.wrap (16*x.seq)=16*x.seq:=by rw[cA];omega
     have k6:IntKind.u64.wrap (fo+2*(p:Int)+16*x.seq)=fo+2*(p:Int)+16*x.seq:=by rw[cA];omega
     have k7:IntKind.u64.wrap x.ak=x.ak:=by rw[cA];omega
     have k8:IntKind.u64.wrap (4294967296*x.ak)=4294967296*x.ak:=by rw[cA];omega
     have k9:IntKind.u64.wrap (fo+2*(p:Int)+16*x.seq+4294967296*x.ak)=Z:=by rw[cA,hZ];omega
     have j5:=ae (a.ext bU);obtain⟨L,R⟩:=aw (M++(h.waits.take j).flatMap iJ);rw[<-R]at j5;obtain⟨HL,HX,fW,U,b5,TP⟩:=cS R r g hT hm G;have X:=λs (r:pW D s) i=>r.cell V af i;have iM:wr<D.heap.size:=V.lt;clear k0 Ez hT hZ g R r g1 g2 g4 hm G hw;go_upto_region 18 with fail
     rw[<-oL.Y];clear I u J E;go_cut[5,84]from 84 to 143 (λs5 cy s=>cy=j/\Hid (Ow w s s5 (L++[Z]) (73+4*j+1))/\Hid (pW D s));case first =>
      go_region_held3(pW D) (with_reducible(first|assumption|exact pW.start _|exact pW.iD _ _|exact pW.alloc aN _)) (first
       |((with_reducible go_fit (IU.Y _));rintro e w' ⟨rfl,rfl⟩)
       |(refine JX rfl _ _ rfl j5 rfl rfl aa (bD.one _ .u64 _ _) ?_ ?_;(exact(aj (ai _) _).drew);intro v4 w4 Ho a8;have P:=pW.trans aN a8.Y))
      all_goals
       go_wp2;go_meet;exact⟨rfl,Ho.Y,P⟩
     case rest =>
      obtain⟨rfl,Ho,P⟩:=hcut;clear k1 k2 k3 k4 k5 k6 k7 k8 k9 X iM;go_wp2;go_loopw[5,11] (λv i wr=>∃q:Nat,q<=3/\i=q/\∃z,v=z/\Hid (Ow w wr z (L++[Z]++T.take q) (74+4*j+q))/\Hid (pW D wr)) (λ_ i _=>3-(intOf i).toNat);case atStart=>exact⟨0,aa,rfl,_,rfl,by unfold Hid;rw[List.take_zero,List.append_nil];exact Ho.Y.le aa,P⟩
      case round =>
       clear Ho P;obtain⟨q,hq,rfl,z,rfl,a,Q⟩:=hrel;obtain⟨X,-,iM⟩:=ag.aF (Q _ _ _ af V);by_cases t:(q:Int)<3
       .obtain⟨N,hN⟩:=aw (L++[Z]++T.take q);rw[<-hN]at a;have EA:∀y,T[q]?=some y->Hid (L++[Z]++T.take (q+1)=N++[y]):=λy h=>by unfold Hid;rw[hN,List.take_add_one,h];simp
        clear hN;by_cases Ms:q<p
        .obtain⟨b7,y,hA,hy,K⟩:=cN.at_ cM af (TP.below a.1) (i:=q) (by rw[<-fW.Y];exact Ms);subst hA;have f0:=K 0 _ rfl;have f1:=K 1 _ rfl;have f2:=K 2 _ rfl;simp only[add_zero]at f0;rw[add_lit _ _ af]at f1 f2;have:=NJ (b5 y (cH hy));obtain⟨Y,hY⟩:=aw (Mo.lY y);have k1:IntKind.u64.wrap y.1=y.1:=by rw[cA];omega
         have k2:IntKind.u64.wrap y.2.1=y.2.1:=by rw[cA];omega
         have k3:IntKind.u64.wrap (256*y.2.1)=256*y.2.1:=by rw[cA];omega
         have k4:IntKind.u64.wrap (y.1+256*y.2.1)=y.1+256*y.2.1:=by rw[cA];omega
         have k5:IntKind.u64.wrap y.2.2=y.2.2:=by rw[cA];omega
         have k6:IntKind.u64.wrap (4294967296*y.2.2)=4294967296*y.2.2:=by rw[cA];omega
         have k7:IntKind.u64.wrap (y.1+256*y.2.1+4294967296*y.2.2)=Y:=by rw[cA,hY,Mo.lY];omega
         have EA:=EA Y (by rw[U.Y,List.getElem?_append_left (by rw[fP, <-fW.Y];exact Ms),List.getElem?_map,hy,hY];rfl);clear hy K hY this;go_wp2_with(at_builtin;refine oQ rfl _ _ rfl a (aj (aj (ai _) _) _) rfl rfl (bD.VD _ .u64 _ _ aA) aa ?_)
         intro v5 w5 lh C;have zJ:=ae (Q.trans ((pW.of (aj (aj (ai _) _) _)).trans C.Y));rw[<-EA.Y]at lh;clear C X iM f0 f1 f2 k1 k2 k3 k4 k5 k6 k7;exact JY
        .have EA:=EA 0 (by rw[U.Y,List.getElem?_append_right (by rw[fP, <-fW.Y];omega),List.getElem?_replicate,ay (by rw[fP, <-fW.Y];omega)]);go_wp2_with(at_builtin;refine oQ rfl _ _ rfl a (aj (ai _) _) rfl rfl (bD.one _ .u64 _ _) aa ?_)
         intro v5 w5 lh C;have zJ:=ae (Q.trans ((pW.of (aj (ai _) _)).trans C.Y));rw[<-EA.Y]at lh;clear C X iM;exact JY
       .have o:∀v,Ow w wr v (L++[Z]++T.take q) (74+4*j+q)->Hid (Ow w wr v (M++(h.waits.take (j+1)).flatMap iJ) (73+4*(j+1))):=λv H=>by
         unfold Hid
         rw[rD _ HX.Y,b6.Y, <-List.append_assoc, <-HL.Y, <-List.singleton_append, <-List.append_assoc]
         rw[List.take_of_length_le (by rw[U.Y];simp;omega)]at H
         exact H.le aa
        have o:=o _ a
        have b:=ae (Q _ _ _ af (b.Y.ah bU))
        go_wp2
        go_roundw
        case rel=>exact⟨j+1,aa,by go_num,_,rfl,o,b⟩
        case measure=>simp[intOf];omega
    .obtain⟨N,hN⟩:=aw (M++h.waits.flatMap iJ);have o:∀v,Ow w wr v (M++(h.waits.take j).flatMap iJ) (73+4*j)->Hid (Ow w wr v N 329):=λv H=>by
      unfold Hid
      rw[List.take_of_length_le (by rw[<-bz.Y];omega), <-hN]at H
      exact H.le aa
     have a:=o _ a;have HN:=ae hN;obtain⟨l,-,m⟩:=ag.aF b.Y;clear hN o;go_wp2_with fail;clear l m;go_loopw[5,147] (λv i wr=>∃j:Nat,j<=n3/\i=j/\∃z,v=z/\Hid (Ow w wr z (N++(h.done.take j).map fj) (329+j))) (λ_ i _=>n3-(intOf i).toNat);case atStart=>exact⟨0,aZ _,rfl,_,rfl,by unfold Hid;rw[List.take_zero,List.map_nil,List.append_nil];exact a.Y⟩
     case round =>
      clear a b;obtain⟨j,hj,rfl,z,rfl,a⟩:=hrel;by_cases t:j<n3
      .obtain⟨ad,x,hA,r,K⟩:=cN.at_ dC af (HH.dn.below a.1) (i:=j) (by rw[<-Jw.Y];exact t);subst hA;have I:=K 0 _ rfl;have u:=K 1 _ rfl;have J:=K 2 _ rfl;have E:=K 3 _ rfl;simp only[add_zero]at I;rw[add_lit _ _ af]at u J E;have HR:=ae (λs=>Du s x.seq x.cs x.code x.value);rw[show zW x.seq x.cs x.code x.value=fj x from rfl]at HR;obtain⟨L,R⟩:=aw (N++(h.done.take j).map fj);rw[<-R]at a;have EA:Hid (N++(h.done.take (j+1)).map fj=L++[fj x]):=by unfold Hid;rw[map_take _ r,R,List.append_assoc]
       clear K r R;go_wp2_with fail;go_fit (HR _);rintro e w5 ⟨rfl,G⟩;have iq:=ae (ah (aj (ai wr) (.cells #[x.seq,x.cs,x.code,x.value] 64)) G);clear G I u J E;go_wp2_with(at_builtin;refine oQ rfl _ _ rfl a (aj iq _) rfl rfl (bD.one _ .u64 _ _) aa ?_)
       intro v5 w6 lh C;rw[<-EA.Y]at lh;clear C;go_wp2;go_roundw;case rel=>exact⟨j+1,aa,by go_num,_,rfl,lh⟩
       case measure=>simp[intOf];omega
      .have o:∀v,Ow w wr v (N++(h.done.take j).map fj) (329+j)->Hid (Ow w wr v (gI c h) 400):=λv H=>by
        unfold Hid gI
        rw[ay (gb.2 HF.Y), <-List.cons_append, <-List.cons_append, <-HM.Y, <-HN.Y]
        rw[List.take_of_length_le (by rw[<-Jw.Y];omega)]at H
        exact H.le aa
       have o:=o _ a
       go_wp2
       refine bodyPost_ret (v:=?_) ?_ rfl ?_
       rotate_left
       .simp[results,results23,go_sem];rfl
       .exact o.2.1.Tc o.1 (aR _)
theorem lN{α:Type}(f:List Int->α)(m:Nat):∀(j:Nat) (l:List Int),pieces f m (j+1) l=pieces f m j l++[f (l.drop (m*j))]
 |0,l=>by simp[pieces]
 |j+1,l=>by rw[pieces,lN f m j (l.drop m),pieces,List.cons_append,List.drop_drop,Nat.mul_succ,Nat.add_comm m]
theorem jT{α:Type}(f:List Int->α)(m:Nat):∀(j:Nat) (l:List Int),(pieces f m j l).length=j
 |0,_=>rfl
 |j+1,l=>by rw[pieces,List.length_cons,jT f m j]
structure vu (c:Mo.dG) (A:Option Addr) (n k:Nat) (w wr:World) (l1:List Int) (tk:Int) (v1 v2 v3:Value) (xs:List Mo.Ch) (ys:List Mo.Wt) (zs:List Mo.Rs) (gr gh:Nat):Prop where
 kc:ag wr w 24 #[c.kind,c.threads,c.chans,c.cap,c.nodes,c.aP,c.aB,c.tags,c.bw,c.bn,.slice A n k]
 kr:ag wr (w.heap.size+1) 45 #[oZ,oN,oN,oN]
 rd:kv wr (λb=>b<w.heap.size) gr l1
 kh:ag wr gh 45 #[tk,v1,v2,v3]
 ch:Gw wr (gr+1) v1 xs
 wt:j6 wr (gr+1) v2 ys
 dn:aH wr (gr+1) 64 4 fD v3 zs
 ext:Below w w wr
 b9:gr<gh
 rg:w.heap.size+1<gr
theorem iV{r:List α}(l:Good P)(h:aD e m P w base (eP w) v r)(f:∀b,eP w b\/v.ownBlock=some b->w'.heap[b]?=w.heap[b]?):aD e m P w' base (eP w') v r :=
 (aD.move l h (λb a=>f b (.inl a)) (λg j=>f g (.inr j))).mono l λb a=>by
  have:=f b (.inl a)
  rcases a with⟨i,c,d⟩|⟨i,c,d⟩
  .exact .inl ⟨i,c,this.trans d⟩
  .exact .inr ⟨i,c,this.trans d⟩
theorem Zg{l:List Int}(h:kv w S g l):∃ys,ag w g 270 ys:=by obtain⟨A,c,a,_⟩:=h;exact⟨_,a⟩
theorem vu.by_(H:vu c A n k w wr l1 tk v1 v2 v3 xs ys zs gr gh)(r:kv w2 (λb=>b<w.heap.size) gr l2)(f:∀b,b<wr.heap.size->b≠gr->w2.heap[b]?=wr.heap[b]?)(l:Below w w w2):vu c A n k w w2 l2 tk v1 v2 v3 xs ys zs gr gh:=by
 obtain⟨i,g⟩:=Zg H.rd;have d:∀b,eP wr b->b≠gr:=λb a e=>by subst e;exact eP.not g af af a
 refine⟨(f _ H.kc.lt (by have:=H.rg;omega)).trans H.kc,(f _ H.kr.lt (by have:=H.rg;omega)).trans H.kr,r,(f _ H.kh.lt (by have:=H.b9;omega)).trans H.kh,?_,?_,?_,l,H.b9,H.rg⟩
 .exact iV cd H.ch λb a=>a.elim (λh=>f b h.lt (d b h)) (λh=>f b (aD.lt H.ch h).2 (by have:=(aD.lt H.ch h).1;omega))
 .exact iV aI H.wt λb a=>a.elim (λh=>f b h.lt (d b h)) (λh=>f b (aD.lt H.wt h).2 (by have:=(aD.lt H.wt h).1;omega))
 .exact iL H.dn λb a=>f b (bk H.dn a).2 (by have:=(bk H.dn a).1;omega)
theorem vu.to(H:vu c A n k w wr l1 tk v1 v2 v3 xs ys zs gr gh)(f:ft wr (λb=>b<w.heap.size) gr l2 w2):vu c A n k w w2 l2 tk v1 v2 v3 xs ys zs gr gh:=H.by_ f.1 f.2.1 (H.ext.trans (f.2.2.mono (by have:=H.rg;omega)))
theorem vu.more(H:vu c A n k w wr l1 tk v1 v2 v3 xs ys zs gr gh)(f:Below wr wr w2):vu c A n k w w2 l1 tk v1 v2 v3 xs ys zs gr gh:=H.by_ (H.rd.ext (λb f=>by have:=H.kc.lt;omega) f) (λb a _=>f.block b a) (ah H.ext f)
def Ss(x:Ch)(B:Option Addr)(d:Nat):Row 5:=⟨[x.gen,x.cap,x.used,x.closed,.slice B x.buf.length d],rfl,by intro u a;simp at a;rcases a with rfl|rfl|rfl|rfl|rfl<;>rfl⟩
def QB(x:Wt)(B:Option Addr)(d:Nat):Row 4:=⟨[x.on,x.ak,x.seq,.slice B x.cases.length d],rfl,by intro u a;simp at a;rcases a with rfl|rfl|rfl|rfl<;>rfl⟩
theorem vu.grown(H:vu c A n k w wr l1 tk v1 v2 v3 xs ys zs gr gh)(hrow:∀b,row.ownBlock=some b->gr+1<=b/\∃ys j,wr.heap[b]?=some (.cells ys e j))(o:Obj)(l:(wr.alloc o).grownBy w4 row.ownBlock)(r:e≠3)(y:e≠101)(C:e≠45)(i:Nat)(u:Value) :
 (∀b,b<wr.heap.size->b≠gh->row.ownBlock≠some b->(w4.setCell ⟨gh,i,none⟩ u).heap[b]?=wr.heap[b]?)/\Below w w (w4.setCell ⟨gh,i,none⟩ u)/\ag w4 gh 45 #[tk,v1,v2,v3]/\(∀b,eP wr b->b≠gh/\row.ownBlock≠some b):=by
 have h:∀b,b<wr.heap.size->row.ownBlock≠some b->w4.heap[b]?=wr.heap[b]?:=λb a f=>(l.block b (by simp;omega) (λg=>f g.symm)).trans ((aj (ai wr) o).block b a)
 have q:row.ownBlock≠some gh:=λg=>by
  obtain⟨_,ys,j,d⟩:=hrow gh g
  have:=H.kh
  unfold ag at this
  rw[this]at d
  injection d with d
  injection d with _ d
  exact C d.symm
 refine⟨λb a f m=>(dE _ _ _ _ f).trans (h b a m),?_,(h gh H.kh.lt q).trans H.kh,λb a=>⟨λe=>by subst e;exact eP.not H.kh af af a,λg=>?_⟩⟩
 .refine Below.setCell ?_ (p:=⟨gh,i,none⟩) (by have:=H.b9;have:=H.rg;show w.heap.size<=gh;omega) u;exact Below.grown (aj H.ext o) l (by have:=H.ext.size;simp;omega) (λb a=>by have:=(hrow b a).1;have:=H.rg;omega)
 .obtain⟨_,ys,j,d⟩:=hrow b g;exact eP.not d r y a
theorem vu.keep(H:vu c A n k w wr l1 tk v1 v2 v3 xs ys zs gr gh)(l:∀b,b<wr.heap.size->b≠gh->v4.ownBlock≠some b->w2.heap[b]?=wr.heap[b]?)(r:∀b,v4.ownBlock=some b->gr+1<=b) :
 ag w2 w 24 #[c.kind,c.threads,c.chans,c.cap,c.nodes,c.aP,c.aB,c.tags,c.bw,c.bn,.slice A n k]/\ag w2 (w.heap.size+1) 45 #[oZ,oN,oN,oN]/\kv w2 (λb=>b<w.heap.size) gr l1:=by
 have m:=H.b9
 have o:=H.rg
 have j:=H.kh.lt
 have a:∀b,b<=gr->w2.heap[b]?=wr.heap[b]?:=λb i=>l b aa aa (λh=>by have:=r b h;omega)
 obtain⟨B,d,e,f,g⟩:=H.rd
 refine⟨(a _ aa).trans H.kc,(a _ aa).trans H.kr,B,d,(a _ aa).trans e,f,g.same λb i=>a b aa⟩
theorem dY{l:List Value}(h:w.ownsRow base e m v n l):∀b,v.ownBlock=some b->∃ys f,w.heap[b]?=some (.cells ys e f):=λb a=>by
 rcases h.2 with⟨g,_⟩|⟨k,d,c,j,_,i,_⟩
 .subst g;cases a
 .subst j;injection a with a;subst a;exact⟨c,_,i⟩
theorem vu.UG(H:vu c A n k w wr l1 tk v1 v2 v3 xs ys zs gr gh)(E:rows.length=xs.length)(r2:aH wr (gr+1) 50 5 dF v1 rows)(F:∀(i:Nat) (r:Row 5) (x:Ch),rows[i]?=some r->xs[i]?=some x->TD wr (eP wr) r.val x){x:Ch}(l:x.buf.length<=d)(C:dL wr (λb=>q<=b/\Ty wr 3 b) .i64 B x.buf)(y:aH w4 (gr+1) 50 5 dF v4 (rows++[Ss x B d]))(s:(wr.alloc o).grownBy w4 v1.ownBlock):vu c A n k w (w4.setCell ⟨gh,1,none⟩ v4) l1 tk v4 v2 v3 (xs++[x]) ys zs gr gh:=by
 obtain⟨g1,j,f,g⟩:=H.grown (row:=v1) (λb hb=>⟨(bk r2 hb).1,dY r2 b hb⟩) o s af af af 1 v4
 obtain⟨m,p,t⟩:=H.keep (v4:=v1) g1 (λb hb=>(bk r2 hb).1)
 have jD:Sm (eP wr) wr (w4.setCell ⟨gh,1,none⟩ v4):=λb hb=>g1 b hb.lt (g b hb).1 (g b hb).2
 have v:∀b,eP wr b->eP (w4.setCell ⟨gh,1,none⟩ v4) b:=λb hb=>by exact Ey
 refine⟨m,p,t,f.bp 1 _,?_,?_,?_,j,H.b9,H.rg⟩
 .refine(aD.app cd E F jD (bu y f af 1 v4) (x:=x) ⟨B,d,rfl,l,?_⟩).mono cd v;exact(dL.mono (λb hb=>.inl hb.2) C).same jD
 .refine iV aI H.wt λb hb=>?_;rcases hb with hb|hb
  .exact jD b hb
  .refine g1 b (aD.lt H.wt hb).2 (aD.other H.wt H.kh af b hb) (λhe=>?_);obtain⟨u,_,a,_⟩:=H.wt;exact cL a r2 af hb he.symm
 .exact JZ
theorem vu.Zh(H:vu c A n k w wr l1 tk v1 v2 v3 xs ys zs gr gh){rows:List (Row 4)}(E:rows.length=ys.length)(r2:aH wr (gr+1) 99 4 dF v2 rows)(F:∀(i:Nat) (r:Row 4) (x:Wt),rows[i]?=some r->ys[i]?=some x->OO wr (eP wr) r.val x)(l:x.cases.length<=d)(C:eo wr (λb=>q<=b/\Ty wr 101 b) bj B x.cases)(y:aH w4 (gr+1) 99 4 dF v4 (rows++[QB x B d]))(s:(wr.alloc o).grownBy w4 v2.ownBlock):vu c A n k w (w4.setCell ⟨gh,2,none⟩ v4) l1 tk v1 v4 v3 xs (ys++[x]) zs gr gh:=by
 obtain⟨g1,j,f,g⟩:=H.grown (row:=v2) (λb hb=>⟨(bk r2 hb).1,dY r2 b hb⟩) o s af af af 2 v4
 obtain⟨m,p,t⟩:=H.keep (v4:=v2) g1 (λb hb=>(bk r2 hb).1)
 have jD:Sm (eP wr) wr (w4.setCell ⟨gh,2,none⟩ v4):=λb hb=>g1 b hb.lt (g b hb).1 (g b hb).2
 have v:∀b,eP wr b->eP (w4.setCell ⟨gh,2,none⟩ v4) b:=λb hb=>by exact Ey
 refine⟨m,p,t,f.bp 2 _,?_,?_,?_,j,H.b9,H.rg⟩
 .refine iV cd H.ch λb hb=>?_;rcases hb with hb|hb
  .exact jD b hb
  .refine g1 b (aD.lt H.ch hb).2 (aD.other H.ch H.kh af b hb) (λhe=>?_);obtain⟨u,_,a,_⟩:=H.ch;exact cL a r2 af hb he.symm
 .refine(aD.app aI E F jD (bu y f af 2 v4) (x:=x) ⟨B,d,rfl,l,?_⟩).mono aI v;exact(eo.mono (λb hb=>.inr hb.2) C).same jD
 .exact JZ
theorem vu.ac2(H:vu c A n k w wr l1 tk v1 v2 v3 xs ys zs gr gh){l:List Rs}(r:aH wr (gr+1) 64 4 fD v4 l):vu c A n k w (wr.setCell ⟨gh,3,none⟩ v4) l1 tk v1 v2 v4 xs ys l gr gh:=by
 have f:∀b,b≠gh->(wr.setCell ⟨gh,3,none⟩ v4).heap[b]?=wr.heap[b]?:=λb a=>dE _ _ _ _ a;have g:∀b,eP wr b->b≠gh:=λb a e=>by subst e;exact eP.not H.kh af af a
 have m:=H.b9;have o:=H.rg;obtain⟨B,d,h,i,j⟩:=H.rd;refine⟨(f _ aa).trans H.kc,(f _ aa).trans H.kr,⟨B,d,(f _ aa).trans h,i,j.same λb a=>f b aa⟩,H.kh.bp 3 _,?_,?_,bu r H.kh af 3 v4,H.ext.setCell (p:=⟨gh,3,none⟩) (by show w.heap.size<=gh;omega) _,H.b9,H.rg⟩
 .exact iV cd H.ch λb a=>f b (a.elim (g b) (aD.other H.ch H.kh af b))
 .exact iV aI H.wt λb a=>f b (a.elim (g b) (aD.other H.wt H.kh af b))
theorem yN(l:List Int):∀(n:Nat),n<=l.length->pieces (λl=>cV (l.getD 0 0)) 1 n l=(l.take n).map cV:=by
 intro n;induction n generalizing l with
 |zero=>intro _;rfl
 |succ n b =>
  intro a;cases l with
  |nil=>simp at a
  |cons z l=>rw[pieces];simp only[List.drop_succ_cons,List.drop_zero,List.take_succ_cons,List.map_cons];rw[b l (by simp at a;omega)];rfl
theorem wu.own(h1:Gw w base (.slice A1 n1 m1) h.chans)(h2:j6 w base (.slice A2 n2 m2) h.waits)(f:aH w base 64 4 fD (.slice A3 n3 m3) h.done):wu w h A1 A2 A3 :=
 ⟨aD.GO h1,aD.GO h2,(aH.xS f).2,λad e=>by
  obtain⟨c,_,a,_⟩:=h1
  obtain⟨d,_,b,_⟩:=h2
  rcases e with rfl|rfl|rfl
  .exact .inl (kz a)
  .exact .inr (.inl (kz b))
  .exact .inr (.inr (kz f))⟩
structure uH (w wr:World) (tk:Int) (v1 v2 v3:Value) (xs:List Mo.Ch) (ys:List Mo.Wt) (zs:List Mo.Rs) (gh:Nat):Prop where
 kh:ag wr gh 45 #[tk,v1,v2,v3]
 ch:Gw wr w v1 xs
 wt:j6 wr w v2 ys
 dn:aH wr w 64 4 fD v3 zs
 ext:Below w w wr
 b9:w.heap.size<=gh
def Sty(e:TypeId)(f:Nat)(a b:World):Prop:=∀g t ys,e≠t->g≠f->ag a g t ys->ag b g t ys
theorem uH.more(H:uH w wr tk v1 v2 v3 xs ys zs gh)(f:Below wr wr w2):uH w w2 tk v1 v2 v3 xs ys zs gh:=⟨H.kh.ah f,aD.gK cd H.ch f,aD.gK aI H.wt f,H.dn.ah f,ah H.ext f,H.b9⟩
theorem uH.grown(H:uH w wr tk v1 v2 v3 xs ys zs gh)(hrow:∀b,row.ownBlock=some b->w.heap.size<=b/\∃ys l,wr.heap[b]?=some (.cells ys e l))(o:Obj)(r:(wr.alloc o).grownBy w4 row.ownBlock)(y:e≠3)(C:e≠101)(E:e≠45)(i:Nat)(u:Value) :
 (∀b,b<wr.heap.size->b≠gh->row.ownBlock≠some b->(w4.setCell ⟨gh,i,none⟩ u).heap[b]?=wr.heap[b]?)/\Below w w (w4.setCell ⟨gh,i,none⟩ u)/\ag w4 gh 45 #[tk,v1,v2,v3]/\(∀b,eP wr b->b≠gh/\row.ownBlock≠some b)/\Sty e gh wr (w4.setCell ⟨gh,i,none⟩ u):=by
 have j:∀b,b<wr.heap.size->row.ownBlock≠some b->w4.heap[b]?=wr.heap[b]?:=λb c a=>(r.block b (by simp;omega) (λf=>a f.symm)).trans ((aj (ai wr) o).block b c)
 have h:∀b t ys,e≠t->ag wr b t ys->row.ownBlock≠some b:=λb t ys m k f=>by
  obtain⟨_,v,l,d⟩:=hrow b f
  unfold ag at k
  rw[k]at d
  injection d with d
  injection d with _ d
  exact m d.symm
 have s:=h gh _ _ E H.kh
 have n:∀b,b<wr.heap.size->b≠gh->row.ownBlock≠some b->(w4.setCell ⟨gh,i,none⟩ u).heap[b]?=wr.heap[b]?:=λb c a q=>(dE _ _ _ _ a).trans (j b c q)
 refine⟨n,?_,(j gh H.kh.lt s).trans H.kh,λb c=>⟨λe=>by subst e;exact eP.not H.kh (by decide) (by decide) c,λf=>?_⟩,λg t ys m a k=>(n g k.lt a (h g t ys m k)).trans k⟩
 .refine Below.setCell ?_ (p:=⟨gh,i,none⟩) H.b9 u;exact Below.grown (aj H.ext o) r (by have:=H.ext.size;simp;omega) (λb c=>(hrow b c).1)
 .obtain⟨_,ys,l,d⟩:=hrow b f;exact eP.not d y C c
theorem uH.UG(H:uH w wr tk v1 v2 v3 xs ys zs gh)(E:rows.length=xs.length)(r2:aH wr w 50 5 dF v1 rows)(F:∀(i:Nat) (r:Row 5) (x:Ch),rows[i]?=some r->xs[i]?=some x->TD wr (eP wr) r.val x){x:Ch}(l:x.buf.length<=d)(C:dL wr (eP wr) .i64 B x.buf)(y:aH w4 w 50 5 dF v4 (rows++[Ss x B d]))(s:(wr.alloc o).grownBy w4 v1.ownBlock):uH w (w4.setCell ⟨gh,1,none⟩ v4) tk v4 v2 v3 (xs++[x]) ys zs gh/\Sty 50 gh wr (w4.setCell ⟨gh,1,none⟩ v4)/\ag w4 gh 45 #[tk,v1,v2,v3]:=by
 obtain⟨g1,g,a,f,j⟩:=H.grown (row:=v1) (λb hb=>⟨(bk r2 hb).1,dY r2 b hb⟩) o s (by decide) (by decide) (by decide) 1 v4
 have jD:Sm (eP wr) wr (w4.setCell ⟨gh,1,none⟩ v4):=λb hb=>g1 b hb.lt (f b hb).1 (f b hb).2
 have m:∀b,eP wr b->eP (w4.setCell ⟨gh,1,none⟩ v4) b:=λb hb=>by exact Ey
 refine⟨⟨a.bp 1 _,?_,?_,?_,g,H.b9⟩,j,a⟩
 .exact(aD.app cd E F jD (bu y a (by decide) 1 v4) (x:=x) ⟨B,d,rfl,l,C.same jD⟩).mono cd m
 .refine iV aI H.wt λb hb=>?_;rcases hb with hb|hb
  .exact jD b hb
  .refine g1 b (aD.lt H.wt hb).2 (aD.other H.wt H.kh (by decide) b hb) (λhe=>?_);obtain⟨k,_,c,_⟩:=H.wt;exact cL c r2 (by decide) hb he.symm
 .exact JZ
theorem uH.Zh(H:uH w wr tk v1 v2 v3 xs ys zs gh){rows:List (Row 4)}(E:rows.length=ys.length)(r2:aH wr w 99 4 dF v2 rows)(F:∀(i:Nat) (r:Row 4) (x:Wt),rows[i]?=some r->ys[i]?=some x->OO wr (eP wr) r.val x)(l:x.cases.length<=d)(C:eo wr (eP wr) bj B x.cases)(y:aH w4 w 99 4 dF v4 (rows++[QB x B d]))(s:(wr.alloc o).grownBy w4 v2.ownBlock):uH w (w4.setCell ⟨gh,2,none⟩ v4) tk v1 v4 v3 xs (ys++[x]) zs gh/\Sty 99 gh wr (w4.setCell ⟨gh,2,none⟩ v4)/\ag w4 gh 45 #[tk,v1,v2,v3]:=by
 obtain⟨g1,g,a,f,j⟩:=H.grown (row:=v2) (λb hb=>⟨(bk r2 hb).1,dY r2 b hb⟩) o s (by decide) (by decide) (by decide) 2 v4
 have jD:Sm (eP wr) wr (w4.setCell ⟨gh,2,none⟩ v4):=λb hb=>g1 b hb.lt (f b hb).1 (f b hb).2
 have m:∀b,eP wr b->eP (w4.setCell ⟨gh,2,none⟩ v4) b:=λb hb=>by exact Ey
 refine⟨⟨a.bp 2 _,?_,?_,?_,g,H.b9⟩,j,a⟩
 .refine iV cd H.ch λb hb=>?_;rcases hb with hb|hb
  .exact jD b hb
  .refine g1 b (aD.lt H.ch hb).2 (aD.other H.ch H.kh (by decide) b hb) (λhe=>?_);obtain⟨k,_,c,_⟩:=H.ch;exact cL c r2 (by decide) hb he.symm
 .exact(aD.app aI E F jD (bu y a (by decide) 2 v4) (x:=x) ⟨B,d,rfl,l,C.same jD⟩).mono aI m
 .exact JZ
theorem uH.ac3(H:uH w wr tk v1 v2 v3 xs ys zs gh){x:Rs}(r:aH w4 w 64 4 fD v4 (zs++[x]))(l:(wr.alloc o).grownBy w4 v3.ownBlock):uH w (w4.setCell ⟨gh,3,none⟩ v4) tk v1 v2 v4 xs ys (zs++[x]) gh/\Sty 64 gh wr (w4.setCell ⟨gh,3,none⟩ v4)/\ag w4 gh 45 #[tk,v1,v2,v3]:=by
 obtain⟨d,j,e,h,k⟩:=H.grown (row:=v3) (λb a=>⟨(bk H.dn a).1,dY H.dn b a⟩) o l (by decide) (by decide) (by decide) 3 v4;have i:Sm (eP wr) wr (w4.setCell ⟨gh,3,none⟩ v4):=λb a=>d b a.lt (h b a).1 (h b a).2;refine⟨⟨e.bp 3 _,?_,?_,bu r e (by decide) 3 v4,j,H.b9⟩,k,e⟩
 .refine iV cd H.ch λb a=>?_;rcases a with a|a
  .exact i b a
  .refine d b (aD.lt H.ch a).2 (aD.other H.ch H.kh (by decide) b a) (λf=>?_);obtain⟨g,_,c,_⟩:=H.ch;exact cL c H.dn (by decide) a f.symm
 .refine iV aI H.wt λb a=>?_;rcases a with a|a
  .exact i b a
  .refine d b (aD.lt H.wt a).2 (aD.other H.wt H.kh (by decide) b a) (λf=>?_);obtain⟨g,_,c,_⟩:=H.wt;exact cL c H.dn (by decide) a f.symm
theorem sP{α:Type}{f:List Int->α}{m:Nat}{x:α}:∀{n:Nat} {l:List Int},x∈pieces f m n l->∃q,x=f q
 |0,_,h=>by cases h
 |n+1,l,h=>by
  rw[pieces]at h
  rcases List.mem_cons.1 h with h|h
  .exact⟨_,h⟩
  .exact sP h
def aby(c:dG)(l:List Int)(w:World)(e:Ending)(f:World):Prop :=
 (∃h,qo c l=some h/\∃A1 A2 A3 m1 m2 m3,e=.returned (.tuple #[.agg #[h.ak,.slice A1 h.chans.length m1,.slice A2 h.waits.length m2,.slice A3 h.done.length m3],true])/\qZ f w h A1 A2 A3 h.chans.length h.waits.length h.done.length m1 m2 m3/\Below w w f) \/
 (qo c l=none/\e=.returned (.tuple #[.agg #[oZ,oN,oN,oN],false])/\Below w w f)
theorem Mu(w:World)(hc:aV c=true)(hk:c.kind=3)(hn:n=c.start.length)(hr:bD w .i64 A c.start)(l:List Int)(D:Option Addr)(U dd:Nat)(fF:U=l.length)(n7:(l.length:Int)=bA c)(mX:U<=dd)(hu:fV l)(hD:bD w .u64 D l) :
 Calls prog 234 #[.agg #[c.kind,c.threads,c.chans,c.cap,c.nodes,c.aP,c.aB,c.tags,c.bw,c.bn,.slice A n k],.slice D U dd] w (aby c l w):=by
 have hp:=Mo.aO hc
 have er:=size_le hc
 have uo:(c.chans.toNat:Int)=c.chans:=Int.toNat_of_nonneg hp.2.2.2.2.2.2.2.1
 have JH:(c.threads.toNat:Int)=c.threads:=Int.toNat_of_nonneg (by omega)
 have dh:l.length=1+((1+c.cap.toNat)*c.chans.toNat+4*c.threads.toNat+c.threads.toNat):=by
  have h1:=n7;unfold bA eC at h1;rw[au (by rw[hc];decide),au (by rw[hc];decide),ay hk, <-uo, <-JH]at h1;have h2:(c.cap.toNat:Int)=c.cap:=Int.toNat_of_nonneg hp.2.2.2.2.2.2.1.1;rw[<-h2]at h1;have h3:(((c.chans.toNat*(1+c.cap.toNat):Nat)):Int)=(c.chans.toNat:Int)*(1+(c.cap.toNat:Int)):=by push_cast;rfl
  rw[<-h3,Nat.mul_comm c.chans.toNat]at h1;omega
 have Zi:=ae dh
 have Ca:U<=2000:=by omega
 obtain⟨jf,cy,HU,HC,HN,xn⟩:=cS fF n7 hu hc hn hr;obtain⟨jC,Jj,EA,dM,tu,jm⟩:=cS hD uo JH hk (λwx (u:Below w w wx)=>ji wx hc hn (hr.below u) (k:=k)) (λwx (u:Below w w wx)=>DD wx hc hn (hr.below u) (k:=k))
 have b1:0<=c.chans:=hp.2.2.2.2.2.2.2.1
 have b2:c.chans<=8:=hp.2.2.2.2.2.2.2.2
 have b3:1<=c.threads:=hp.1.1
 have b4:c.threads<=64:=hp.1.2
 have dk:(c.kind !=3)=false:=by rw[hk];rfl
 have dz:((U:Int) !=bA c)=false:=by rw[fF,n7];simp
 clear hp er dh n7 hu hc hn hr hD hk uo JH fF
 have bJ:Hid (Below w w ((w.alloc (dB c A n k)).alloc sj)):=aj (aj (ai w) _) _
 have uG:Hid (ag ((w.alloc (dB c A n k)).alloc sj) w 24 #[c.kind,c.threads,c.chans,c.cap,c.nodes,c.aP,c.aB,c.tags,c.bw,c.bn,.slice A n k]):=(ag.new _ _ _).alloc _
 have xc:Hid (ag ((w.alloc (dB c A n k)).alloc sj) (w.heap.size+1) 45 #[oZ,oN,oN,oN]):=(ag.newAt _ _ _ (by simp))
 go_enter func234,ntmps234
 go_wp2_with fail
 go_fit (tu _ bJ)
 rintro e w1 ⟨rfl,a6⟩
 obtain⟨br,eZ,ik⟩:=aS (ah bJ a6) (uG.ah a6) (xc.ah a6)
 clear a6
 obtain⟨d,-,I⟩:=ag.aF eZ
 go_wp2_with fail
 go_fit (jm _ br)
 rintro e w2 ⟨rfl,a7⟩
 obtain⟨bB,iH,jw⟩:=aS (ah br a7) (eZ.ah a7) (ik.ah a7)
 clear a7 d I
 obtain⟨d,-,I⟩:=ag.aF iH
 go_wp2_with fail
 have E:Hid (kv (w2.alloc (.cells #[.slice D U dd] 270)) (λb=>b<w.heap.size) w2 l):=by exact ac4
 obtain⟨bU,mq,gN⟩:=aS (aj bB (.cells #[.slice D U dd] 270)) (iH.alloc (.cells #[.slice D U dd] 270)) (jw.alloc (.cells #[.slice D U dd] 270))
 have dc:w.heap.size+1<w2.heap.size:=jw.lt
 obtain⟨F,hg⟩:∃F,F=w2.heap.size:=⟨_,rfl⟩
 rw[<-hg]at E dc ⊢
 clear hg d I
 generalize(w2.alloc (.cells #[.slice D U dd] 270))=w3 at *
 have cG:=oH w3 E (λb p=>by omega) (by have:=jf.Y;omega)
 (with_reducible go_fit cG)
 rintro e w4 ⟨rfl,hT⟩
 obtain⟨x0,a8⟩:∃x0,x0=l.getD 0 0:=⟨_,rfl⟩
 have Ny:=HU.at_ 0
 have dy:aG l 0=x0:=a8.symm
 rw[dy]at Ny
 unfold uP at Ny
 obtain⟨f,uw⟩:∃f,f=x0%4294967296:=⟨_,rfl⟩
 have hand:bits BinOp.and IntKind.u64 x0 4294967295=f:=by rw[uw];exact BJ _ Ny.1 Ny.2
 have t0:0<=f:=by omega
 have t1:f<4294967296:=by omega
 have rJ:Hid (f=l.getD 0 0%4294967296):=by unfold Hid;rw[uw,a8]
 rw[<-a8]
 have iX:F<w4.heap.size:=hT.1.lt
 have cv:ag w4 w 24 #[c.kind,c.threads,c.chans,c.cap,c.nodes,c.aP,c.aB,c.tags,c.bw,c.bn,.slice A n k]:=(hT.2.1 _ mq.lt (by omega)).trans mq
 have dg:ag w4 (w.heap.size+1) 45 #[oZ,oN,oN,oN]:=(hT.2.1 _ gN.lt (by omega)).trans gN
 have H0:Hid (vu c A n k w (w4.alloc (sY f none 0 0 none 0 0 none 0 0)) (l.drop 1) f oN oN oN [] [] [] F w4.heap.size):=⟨cv.alloc _,dg.alloc _,hT.1.ext (λb p=>by omega) (aj (ai w4) _),ag.new _ _ _,aD.nil _ _ _ _ _ _,aD.nil _ _ _ _ _ _,aH.nil _ _ _ _ _,(bU.trans (hT.2.2.mono (by omega))).alloc (by omega) _,iX,dc⟩
 clear a8 Ny dy uw cG hT bJ uG xc br eZ ik bB iH jw bU mq gN E dz dk tu jm
 obtain⟨d,-,I⟩:=ag.aF cv
 go_wp2_with fail
 clear cv dg hand d I
 obtain⟨M,rX⟩:∃M,M=w4.heap.size:=⟨_,rfl⟩
 rw[<-rX]at H0 ⊢
 generalize(w4.alloc (sY f none 0 0 none 0 0 none 0 0))=wa at *
 clear rX iX
 go_loopw[34] (λi wr=>∃(j:Nat) (v1:Value),j<=c.chans.toNat/\i=j/\Hid (vu c A n k w wr ((l.drop 1).drop ((1+c.cap.toNat)*j)) f v1 oN oN (pieces (iy c) (1+c.cap.toNat) j (l.drop 1)) [] [] F M)) (λi _=>c.chans.toNat-(intOf i).toNat)
 case atStart=>exact⟨0,_,aZ _,rfl,by rw[Nat.mul_zero,List.drop_zero];exact H0.Y⟩
 case round =>
  clear H0;obtain⟨j,v1,hj,rfl,H⟩:=hrel;by_cases en:(j:Int)<c.chans
  .have AW:j<c.chans.toNat:=by omega
   obtain⟨m,sQ⟩:∃m,m=pieces (iy c) (1+c.cap.toNat) j (l.drop 1):=⟨_,rfl⟩
   have yO:m.length=j:=by rw[sQ];exact jT _ _ _ _
   obtain⟨K,a⟩:∃K,K=(l.drop 1).drop ((1+c.cap.toNat)*j):=⟨_,rfl⟩
   have hm:(1+c.cap.toNat)*j+(1+c.cap.toNat)<=(1+c.cap.toNat)*c.chans.toNat:=by rw[<-Nat.mul_succ];exact Nat.mul_le_mul_left _ AW
   have Hp:(1+c.cap.toNat)<=K.length/\K.length<=100000:=by rw[a,iu,iu,Zi.Y];have:=Zi.Y;have:=jf.Y;omega
   have WR:∀z∈K,0<=z/\z<18446744073709551616:=λz hz=>HU z (List.mem_of_mem_drop (List.mem_of_mem_drop (by rw[<-a];exact hz)));rw[<-sQ, <-a]at H;obtain⟨G,J,oq⟩:=H.ch.shape;have rK:Below wr wr wr.drew:=(ai wr).drew;have J0:∀b,b<w.heap.size->b<wr.drew.heap.size:=λb p=>by have:=H.kc.lt;show b<wr.heap.size;omega
   have Zj:∀b,b<w.heap.size->b≠F:=λb p=>by have:=H.rg;omega
   have Hq:=Ld wr.drew HC (k:=k) (n:=n) (A:=A) (H.more rK).rd Zj J0 Hp.2 Hp.1 WR;obtain⟨x,u⟩:∃x,x=iy c K:=⟨_,rfl⟩
   rw[<-u]at Hq;obtain⟨bz,HX,Su,tz⟩:=bh Hq u sQ a;rw[yO]at oq;subst oq;obtain⟨d,-,I⟩:=ag.aF H.kc;obtain⟨s,-,t⟩:=ag.aF H.kh;clear Hq u sQ a Hp WR J0 Zj hm;go_wp2;go_region_law(first
    |(go_simp;go_at_call 243;(with_reducible go_fit bz.Y);rintro e w5 ⟨B3,d3,rfl,ct,P,UH⟩;have r:=(H.more rK).to UH;have Zk:=λi=>ag.cell r.kh i;have Zl:=λi=>ag.free r.kh i;have Zm:=r.kh.lt;have Ok:=r.ext.size;have Zn:=r.ch;obtain⟨rows,q1,q2,q3⟩:=Zn;have iX:=q1.trans yO;have hrg3:=r.rd.lt;have H3:=ae r;have Q3:=ae q3;have X3:=ae P;clear r q3 P UH;go_wp2_with fail)
    |(refine gf rfl _ _ 41 rfl (F+1) 50 5 48 (.agg #[oZ,oZ,false,false,oN]) dF bY eU underlying41 m8 rfl (by decide) _ rows rfl ?_ w5 1 1 [Ss x B3 d3] rfl rfl ?_ ?_ ?_ ?_ ?_;(exact q2.alloc _);(exact Rd.lit w5 (Ss x B3 d3).val _);(simp;omega);(simp;omega);(simp;omega);intro v4 w6 dm bE cw;clear cw;have hA:=H3.UG q1 q2 Q3 ct X3 dm bE;obtain⟨W,k4,O⟩:=dm.shape;rw[fM,iw,iX]at O;subst O;have E:=ae hA;have Y:=H3.grown (row:=.slice G j J) (λb p=>⟨(bk q2 p).1,dY q2 b p⟩) _ bE (by decide) (by decide) (by decide) 1 (.slice W (j+1) k4);have Zo:=λi=>ag.cell Y.2.2.1 i;have Zp:=λi=>ag.free Y.2.2.1 i;have Zq:=Y.2.2.1.lt;clear hA Y dm bE;go_wp2_with fail))
   all_goals
    have kL:vu c A n k w (w6.setCell ⟨M,1,none⟩ (.slice W (j+1) k4)) ((l.drop 1).drop ((1+c.cap.toNat)*(j+1))) f (.slice W (j+1) k4) oN oN (pieces (iy c) (1+c.cap.toNat) (j+1) (l.drop 1)) [] [] F M:=by rw[lN, <-Su.Y, <-tz.Y, <-HX.Y,Nat.mul_succ, <-List.drop_drop, <-tz.Y];exact E.Y
    have HF:=ae kL;clear kL Zo Zp Zq d s I t Zk Zl Zm;generalize w6.setCell ⟨M,1,none⟩ (.slice W (j+1) k4)=w7 at *;exact WS
  .have AW:j=c.chans.toNat:=by omega
   subst AW;have y:=ae H;obtain⟨d,-,I⟩:=ag.aF y.kc;clear H;go_wp2_with fail;clear d I;obtain⟨vC,dw⟩:∃vC,vC=v1:=⟨_,rfl⟩
   rw[<-dw]at y;clear dw;go_loopw[47] (λi wr=>∃(j:Nat) (v2:Value),j<=c.threads.toNat/\i=j/\Hid (vu c A n k w wr (((l.drop 1).drop ((1+c.cap.toNat)*c.chans.toNat)).drop (4*j)) f vC v2 oN (pieces (iy c) (1+c.cap.toNat) c.chans.toNat (l.drop 1)) (pieces iO 4 j ((l.drop 1).drop ((1+c.cap.toNat)*c.chans.toNat))) [] F M)) (λi _=>c.threads.toNat-(intOf i).toNat);case atStart=>exact⟨0,_,aZ _,rfl,by rw[Nat.mul_zero,List.drop_zero];exact y.Y⟩
   case round =>
    clear y;obtain⟨j,v2,hj,rfl,H⟩:=hrel;obtain⟨m,sQ⟩:∃m,m=(pieces (iy c) (1+c.cap.toNat) c.chans.toNat (l.drop 1)):=⟨_,rfl⟩
    have Su:=ae sQ;rw[<-sQ]at H;clear sQ;by_cases en:(j:Int)<c.threads
    .have AW:j<c.threads.toNat:=by omega
     obtain⟨o,X⟩:∃o,o=pieces iO 4 j ((l.drop 1).drop ((1+c.cap.toNat)*c.chans.toNat)):=⟨_,rfl⟩
     have JN:o.length=j:=by rw[X];exact jT _ _ _ _
     obtain⟨K,a⟩:∃K,K=((l.drop 1).drop ((1+c.cap.toNat)*c.chans.toNat)).drop (4*j):=⟨_,rfl⟩
     have Hp:4<=K.length/\K.length<=100000:=by rw[a,iu,iu,iu,Zi.Y];have:=Zi.Y;have:=jf.Y;omega
     have WR:∀z∈K,0<=z/\z<18446744073709551616:=λz hz=>HU z (List.mem_of_mem_drop (List.mem_of_mem_drop (List.mem_of_mem_drop (by rw[<-a];exact hz))));rw[<-X, <-a]at H;obtain⟨G,J,oq⟩:=H.wt.shape;have rK:Below wr wr wr.drew:=(ai wr).drew;have J0:∀b,b<w.heap.size->b<wr.drew.heap.size:=λb p=>by have:=H.kc.lt;show b<wr.heap.size;omega
     have Zj:∀b,b<w.heap.size->b≠F:=λb p=>by have:=H.rg;omega
     have Hq:=Lf wr.drew (H.more rK).rd Zj J0 Hp.2 Hp.1 WR;obtain⟨x,u⟩:∃x,x=iO K:=⟨_,rfl⟩
     rw[<-u]at Hq;obtain⟨bz,HX,dQ,tz⟩:=bh Hq u X a;rw[JN]at oq;subst oq;obtain⟨s,-,t⟩:=ag.aF H.kh;clear Hq u X a Hp WR J0 Zj;go_wp2;go_region_law(first
      |(go_simp;go_at_call 244;(with_reducible go_fit bz.Y);rintro e w5 ⟨B3,d3,rfl,ct,P,UH⟩;have r:=(H.more rK).to UH;have Zk:=λi=>ag.cell r.kh i;have Zl:=λi=>ag.free r.kh i;have Zm:=r.kh.lt;have Ok:=r.ext.size;have Zn:=r.wt;obtain⟨rows,q1,q2,q3⟩:=Zn;have iX:=q1.trans JN;have hrg3:=r.rd.lt;have H3:=ae r;have Q3:=ae q3;have X3:=ae P;clear r q3 P UH;go_wp2_with fail)
      |(refine gf rfl _ _ 42 rfl (F+1) 99 4 48 (.agg #[false,oZ,oZ,oN]) dF bY eU underlying42 na rfl (by decide) _ rows rfl ?_ w5 1 1 [QB x B3 d3] rfl rfl ?_ ?_ ?_ ?_ ?_;(exact q2.alloc _);(exact Rd.lit w5 (QB x B3 d3).val _);(simp;omega);(simp;omega);(simp;omega);intro v4 w6 dm bE cw;clear cw;have hA:=H3.Zh q1 q2 Q3 ct X3 dm bE;obtain⟨W,k4,O⟩:=dm.shape;rw[fM,iw,iX]at O;subst O;have E:=ae hA;have Y:=H3.grown (row:=.slice G j J) (λb p=>⟨(bk q2 p).1,dY q2 b p⟩) _ bE (by decide) (by decide) (by decide) 2 (.slice W (j+1) k4);have Zo:=λi=>ag.cell Y.2.2.1 i;have Zp:=λi=>ag.free Y.2.2.1 i;have Zq:=Y.2.2.1.lt;clear hA Y dm bE;go_wp2_with fail))
     all_goals
      have kL:vu c A n k w (w6.setCell ⟨M,2,none⟩ (.slice W (j+1) k4)) (((l.drop 1).drop ((1+c.cap.toNat)*c.chans.toNat)).drop (4*(j+1))) f vC (.slice W (j+1) k4) oN (pieces (iy c) (1+c.cap.toNat) c.chans.toNat (l.drop 1)) (pieces iO 4 (j+1) ((l.drop 1).drop ((1+c.cap.toNat)*c.chans.toNat))) [] F M:=by rw[lN, <-Su.Y, <-dQ.Y, <-tz.Y, <-HX.Y,Nat.mul_succ, <-List.drop_drop (i:=4), <-tz.Y];exact E.Y
      have HF:=ae kL;clear kL Zo Zp Zq s t Zk Zl Zm;generalize w6.setCell ⟨M,2,none⟩ (.slice W (j+1) k4)=w7 at *;exact WS
    .have AW:j=c.threads.toNat:=by omega
     subst AW;have y:=ae H;clear H;obtain⟨l3,Mr⟩:∃l3,l3=(((l.drop 1).drop ((1+c.cap.toNat)*c.chans.toNat)).drop (4*c.threads.toNat)):=⟨_,rfl⟩
     have dS:l3.length=c.threads.toNat:=by rw[Mr,iu,iu,iu,Zi.Y];omega
     have WR:∀z∈l3,0<=z/\z<18446744073709551616:=λz hz=>HU z (List.mem_of_mem_drop (List.mem_of_mem_drop (List.mem_of_mem_drop (by rw[<-Mr];exact hz))));rw[<-Mr]at y;have b8:=BX wr y.rd (λb p=>by have:=y.rg;omega) (λb p=>by have:=y.kc.lt;omega) (by omega) c.threads.toNat (by omega) WR;rw[EA.Y]at b8;have df:kj c l=⟨f,m,pieces iO 4 c.threads.toNat ((l.drop 1).drop ((1+c.cap.toNat)*c.chans.toNat)),wW l3 c.threads.toNat⟩:=by unfold kj;dsimp only;rw[<-rJ.Y,Su.Y,yN _ _ (by rw[<-Mr];omega), <-Mr];rfl
     obtain⟨L,Z⟩:=av b8 df;obtain⟨o,X⟩:∃o,o=pieces iO 4 c.threads.toNat ((l.drop 1).drop ((1+c.cap.toNat)*c.chans.toNat)):=⟨_,rfl⟩
     rw[<-X]at y Z;have dP:Hid (o.length=c.threads.toNat):=by unfold Hid;rw[X];exact jT _ _ _ _
     have dO:Hid (m.length=c.chans.toNat):=by unfold Hid;rw[Su.Y];exact jT _ _ _ _
     have C0:Hid ((wW l3 c.threads.toNat).length=c.threads.toNat):=by unfold Hid wW;rw[fP,fK];omega
     have Np:Hid (∀x∈m,x.buf.length<=100000):=λx u=>by
      rw[Su.Y]at u
      obtain⟨q,rfl⟩:=sP u
      unfold iy
      dsimp only
      rw[fP,fK,fK]
      have:=(Mo.aO HC).2.2.2.2.2.2.1
      omega
     have Da:Hid (∀x∈o,x.cases.length<=100000):=λx u=>by
      rw[X]at u
      obtain⟨q,rfl⟩:=sP u
      unfold iO
      dsimp only
      rw[fP,fK,fK]
      omega
     clear Mr dS WR b8 df X;obtain⟨C,dJ⟩:∃C,C=wW l3 c.threads.toNat:=⟨_,rfl⟩
     rw[<-dJ]at L Z C0;clear dJ;obtain⟨G,J,oq⟩:=y.ch.shape;obtain⟨V,k2,eG⟩:=y.wt.shape;subst oq eG;obtain⟨d,-,I⟩:=ag.aF y.kc;go_wp2_with fail;(with_reducible go_fit L.Y);rintro e w5 ⟨vD,rfl,b7,hT⟩;obtain⟨Q,T,eO⟩:=aH.shape b7;subst eO;have Hr:=y.to hT;have E:=ae (Hr.ac2 (b7.bL (base':=F+1) y.rd.lt));obtain⟨s,dU,t⟩:=ag.aF Hr.kh;obtain⟨cR,-,c4⟩:=ag.aF Hr.kc;have e5:=Hr.rg;have OL:=Hr.b9;clear Hr b7 hT d I y L;go_wp2_with fail;clear s dU t cR c4;generalize w5.setCell ⟨M,3,none⟩ (.slice Q C.length T)=w6 at *;have cF:=(E.dn.xS).2;have cO:=DL w6 HC HN (xn.below E.ext) ⟨f,m,o,C⟩ G V Q m.length o.length C.length J k2 T rfl rfl rfl (S:=λb=>b<w6.heap.size) (λb p=>p) (jv.mono cd (λb p=>p.lt) E.ch.GO) (jv.mono aI (λb p=>p.lt) E.wt.GO) ⟨cF,λad ha hne=>by subst ha;exact(bk E.dn rfl).2⟩ (by have:=dO.Y;omega) (by have:=dP.Y;omega) (by have:=C0.Y;omega) Np Da (k:=k) (n:=n);have cz:=ae cO;clear cO cF;(with_reducible go_fit (cz.Y.mono λ_ _ h=>h.J.bL));rintro e w7 ⟨⟨B7,d7,rfl,(Ai:Hid _)⟩,qU⟩;have Cm:=ae (E.more qU);clear qU;obtain⟨PW,aq⟩:∃PW,PW=gI c ⟨f,m,o,C⟩:=⟨_,rfl⟩
     have cD:=ae aq;have Cn:Hid (PW.length<=100000):=by
      unfold Hid;rw[aq];by_cases hf:jF c ⟨f,m,o,C⟩=true
      .have:=xI (gb.1 hf);have:=cy.Y;have:=jf.Y;omega
      .unfold gI;rw[au hf];exact aZ _
     rw[<-aq]at Ai ⊢;clear aq E cz;obtain⟨d,-,I⟩:=ag.aF Cm.kc;go_wp2_with fail;have b6:=Lg w7 B7 D d7 dd PW l Cn (by have:=jf.Y;omega) Ai (jC.below Cm.ext);rw[<-jf.Y]at b6;have Hf:=ae b6;clear b6;(with_reducible go_fit Hf.Y);rintro e w8 ⟨rfl,c0⟩;have R:=ae (Cm.more c0.ah);clear c0 d I Hf Ai Cm;obtain⟨bN,cj,cu⟩:=ag.aF R.kr;obtain⟨s,-,t⟩:=ag.aF R.kh;by_cases he:PW=l
     .have N:decide (PW=l)=true:=cg he;have b5:Hid (qo c l=some ⟨f,m,o,C⟩):=by
       unfold Hid qo;rw[Z.Y,ay (by rw[HC.Y, <-cD.Y,he,cy.Y];simp[dM.Y])]
      rw[N];clear N he;go_wp2_with fail;have iB:=aY (vs:=[f,.slice G m.length J,.slice V o.length k2,.slice Q C.length T]) R.kr rfl;have dT:qZ w8 (F+1) ⟨f,m,o,C⟩ G V Q m.length o.length C.length J k2 T:=⟨R.ch,R.wt,R.dn⟩
      have vY:=dT.b9 (q:=w.heap.size+1) (by omega) R.kr (by decide) (by decide) 0 [f,.slice G m.length J,.slice V o.length k2,.slice Q C.length T];have kN:=az (B:=w.heap.size) (g:=w.heap.size+1) (by omega) [f,.slice G m.length J,.slice V o.length k2,.slice Q C.length T] _ 0 R.ext;change bodyPost _ _ _ _ _ (ax w8 (w.heap.size+1) 0 [f,.slice G m.length J,.slice V o.length k2,.slice Q C.length T]);clear bN cj cu s t;generalize ax w8 (w.heap.size+1) 0 [f,.slice G m.length J,.slice V o.length k2,.slice Q C.length T]=wz at *;have fy:=λi=>ag.cell iB i;refine bodyPost_ret (v:=.tuple #[.agg #[f,.slice G m.length J,.slice V o.length k2,.slice Q C.length T],true]) ?_ rfl (.inl ⟨_,b5,G,V,Q,J,k2,T,rfl,vY.bL (by omega),kN⟩);simp[results,results234,go_sem,fy]
     .have N:decide (PW=l)=false:=bF he;have b5:Hid (qo c l=none):=by
       unfold Hid qo;rw[Z.Y,au (by rw[<-cD.Y];simp[he])]
      rw[N];clear N he;go_wp2_with fail;have iB:=aY (vs:=[oZ,oN,oN,oN]) R.kr rfl;have kN:=az (B:=w.heap.size) (g:=w.heap.size+1) (by omega) [oZ,oN,oN,oN] _ 0 R.ext;change bodyPost _ _ _ _ _ (ax w8 (w.heap.size+1) 0 [oZ,oN,oN,oN]);clear bN cj cu s t;generalize ax w8 (w.heap.size+1) 0 [oZ,oN,oN,oN]=wz at *;have fy:=λi=>ag.cell iB i;refine bodyPost_ret (v:=.tuple #[.agg #[oZ,oN,oN,oN],false]) ?_ rfl (.inr ⟨b5,rfl,kN⟩);simp[results,results234,go_sem,fy]
theorem EC(w:World)(l:aV c=true)(r:n=c.start.length)(s:bD w .i64 A c.start)(f:qZ w base h A1 A2 A3 h.chans.length h.waits.length h.done.length m1 m2 m3)(y:h.chans.length<=100000)(C:h.waits.length<=100000)(E:h.done.length<=100000)(F:∀x∈h.chans,x.buf.length<=100000)(G:∀x∈h.waits,x.cases.length<=100000) :
 Calls prog 129 #[.agg #[c.kind,c.threads,c.chans,c.cap,c.nodes,c.aP,c.aB,c.tags,c.bw,c.bn,.slice A n k],.agg #[h.ak,.slice A1 h.chans.length m1,.slice A2 h.waits.length m2,.slice A3 h.done.length m3]] w (uN (gI c h) w) :=
 DL w l r s h A1 A2 A3 _ _ _ m1 m2 m3 rfl rfl rfl (S:=λb=>b<w.heap.size) (λb a=>a) (jv.mono cd (λb a=>a.lt) f.ch.GO) (jv.mono aI (λb a=>a.lt) f.wt.GO) ⟨f.dn.xS.2,λg d e=>by subst d;exact(bk f.dn rfl).2⟩ y C E F G
theorem Hs(w:World)(r:aV c=true)(l:c.kind=3)(s:n=c.start.length)(y:bD w .i64 A c.start) :
 Calls prog 99 #[.agg #[c.kind,c.threads,c.chans,c.cap,c.nodes,c.aP,c.aB,c.tags,c.bw,c.bn,.slice A n k]] w (uN (nW c) w):=by
 have m:=Mo.aO r
 have N:0<=c.chans:=m.2.2.2.2.2.2.2.1
 have O:c.chans<=8:=m.2.2.2.2.2.2.2.2
 have P:1<=c.threads:=m.1.1
 have Q:c.threads<=64:=m.1.2
 obtain⟨J,d,z,E,G⟩:=bQ (λb (a:Below w w b)=>ji b r s (y.below a) (k:=k)) (λb (a:Below w w b)=>Hm b r l s (y.below a) (k:=k)) r s y
 have I:=ae l
 clear m r l s y
 have o:Hid (Below w w (w.alloc (dB c A n k))):=aj (ai w) _
 have D:Hid (ag (w.alloc (dB c A n k)) w 24 #[c.kind,c.threads,c.chans,c.cap,c.nodes,c.aP,c.aB,c.tags,c.bw,c.bn,.slice A n k]):=(ag.new _ _ _)
 go_enter func99,ntmps99
 go_wp2_with fail
 (with_reducible go_fit (J.Y _ o.Y))
 rintro e u ⟨rfl,f⟩
 obtain⟨br,B⟩:=av (ah o f) (D.ah f)
 clear f o D
 have H:=λb (a:Ext u b) i=>ag.cell (B.ah a.Y) i
 obtain⟨j,-,R⟩:=ag.aF B
 have v:=ae (λb (a:Ext u b)=>d.Y b (ah br a.Y))
 have HE:Hid (nW c=gI c (eb c)):=by unfold Hid nW;rw[au (by rw[z.Y];decide)]
 have g:Hid ((eb c).chans.length<=100000/\(eb c).waits.length<=100000/\(eb c).done.length<=100000/\(∀x∈(eb c).chans,x.buf.length<=100000)/\∀x∈(eb c).waits,x.cases.length<=100000):=by
  unfold Hid eb;refine⟨by simp;omega,by simp;omega,by simp;omega,λx a=>?_,λx a=>?_⟩
  .rcases List.mem_map.1 a with⟨i,_,rfl⟩
   split<;>exact aZ _
  .rw[List.eq_of_mem_replicate a];exact aZ _
 generalize eb c=h at v g HE
 clear d
 have l:=I.Y
 have t:(c.kind==3)=true:=by rw[l];rfl
 go_wp2_with fail
 clear t l j
 go_region_held3(Ext u) (with_reducible(repeat(first|assumption|exact Ext.start _|exact Ext.iD _ _|refine Ext.alloc ?_ _))) (first
  |((with_reducible go_fit (v.Y _ (by assumption)));rintro e V ⟨K,L,M,S,T,U,rfl,C,p⟩;have xx:=Ext.to (by assumption) p;have F:=ae C;clear C)
  |((with_reducible go_fit (EC _ z.Y E.Y (G.Y.below (ah br.Y xx.Y)) F.Y g.Y.1 g.Y.2.1 g.Y.2.2.1 g.Y.2.2.2.1 g.Y.2.2.2.2));rintro e W ⟨B3,d3,rfl,LR,q⟩;have xq:=Ext.to (by assumption) q))
 exact abA
theorem Ht(w:World)(b:Bool):Calls prog 220 #[.bool b] w λe w'=>e=.returned (.int .i64 (if b=true then -1 else 1))/\Below w w w':=by
 cases b
 .exact WU
 .exact WU
theorem vw(w:World)(f:aV c=true)(s:n=c.start.length)(y:bD w .i64 A c.start)(l:List Int)(D:Option Addr)(r K:Nat)(M:r=l.length)(R:(l.length:Int)=bA c)(F:bD w .u64 D l)(t:Nat)(Y:(t:Int)<c.threads) :
 Calls prog 151 #[.agg #[c.kind,c.threads,c.chans,c.cap,c.nodes,c.aP,c.aB,c.tags,c.bw,c.bn,.slice A n k],.slice D r K,t] w λe w'=>e=.returned (.int .u64 (l7 c l t))/\Below w w w':=by
 have P:bA c=eC c+c.threads:=by unfold bA;rw[f];rfl
 have o:=size_le f
 obtain⟨S,H⟩:=av (λg (u:Below w w g)=>ji g f s (y.below u) (k:=k)) (λg (u:Below w w g)=>AP g f s (y.below u) (k:=k))
 have d:=Mo.aO f
 have q:0<=eC c:=by
  unfold eC;have V:=d.2.2.2.2.2.2.1;have N:=d.2.2.2.2.2.2.2.1;have W:0<=c.chans*(1+c.cap):=lI N aa;have X:=d.1.1;split
  .omega
  .split<;>omega
 obtain⟨m,j⟩:∃m:Nat,eC c=m:=⟨(eC c).toNat,aa⟩
 obtain⟨v,z,O,G,E⟩:=bD.at_ F (i:=m+t) aa
 subst O
 have J:Hid (l7 c l t=z):=by unfold Hid l7;rw[au (by rw[f];simp;omega),j];unfold aG;rw[au aa,show((m:Int)+(t:Int)).toNat=m+t by omega,ew,G];rfl
 have t0:(0:Int)<=(t:Int):=aa
 have t1:(t:Int)<=64:=by have:=d.1.2;omega
 have m1:(m:Int)<=3000:=aa
 have Z:(0:Int)<=(m:Int):=aa
 have Q:(m:Int)+(t:Int)<(r:Int):=aa
 rw[j]at H
 clear G q d o P f s y F M R j
 have B:Hid (Below w w (w.alloc (dB c A n k))):=aj (ai w) _
 have I:Hid (ag (w.alloc (dB c A n k)) w 24 #[c.kind,c.threads,c.chans,c.cap,c.nodes,c.aP,c.aB,c.tags,c.bw,c.bn,.slice A n k]):=(ag.new _ _ _)
 go_enter func151,ntmps151
 go_wp2_with fail
 go_fit (H _ B)
 rintro e w1 ⟨rfl,a⟩
 have C:=ae (ah B a)
 have h:=λi=>ag.cell (I.ah a) i
 have L:=(I.ah a).lt
 clear a
 go_wp2_with fail
 go_fit (S _ C)
 rintro e T ⟨rfl,b⟩
 have x:=ae (ah C b)
 have U:T.cell? (v.add (m+t))=_:=(x.cell (p:=v.add (m+t)) (bc E)).trans E
 clear b h L
 go_wp2
 go_ret
 exact⟨by rw[J.Y];rfl,x⟩
theorem Cw(F:kJ c h)(l:c.threads<=19)(r:c.chans<=8)(f:aV c=true):GN h:=by
 have hp:=Mo.aO f;refine⟨by have:=F.Fm;omega,by have:=F.I5;omega,by have:=F.zo;omega,λx hx=>?_,λx hx=>?_,λx hx=>?_⟩
 .exact WV
 .have:=mW (F.wt x hx);omega
 .have:=(cK.1 (F.ch x hx)).1;omega
theorem q7(F:kJ c h)(l:c.threads<=19)(f:aV c=true)(r:t<c.threads):h.chans.length<=8/\h.waits.length<=19/\h.done.length<=19/\h.done.length=h.waits.length/\t<h.waits.length/\0<=h.ak/\h.ak<=4294967295/\c.bn<=4095/\c.chans<=8:=by
 have e:=Mo.aO f;have g:=F.Fm;have i:=F.I5;have j:=F.zo;have a:=F.tick;have b:c.bn<=4095:=by unfold aV nI at f;simp only[eT]at f;have:=f.2;rw[au (by rw[F.kind];decide),ay F.kind]at this;simp only[eT,ml]at this;exact this.1.1.2.2
 have d:=e.2.2.2.2.2.2.2.2;refine⟨aa,aa,aa,aa,aa,a.1,a.2,b,d⟩
theorem Mw(F:kJ c h)(f:aV c=true):h.chans.length<=100000/\h.waits.length<=100000/\h.done.length<=100000/\(∀x∈h.chans,x.buf.length<=100000)/\∀x∈h.waits,x.cases.length<=100000:=by
 have hp:=Mo.aO f;refine⟨by have:=F.Fm;omega,by have:=F.I5;omega,by have:=F.zo;omega,λx hx=>?_,λx hx=>?_⟩
 .exact WV
 .have:=mW (F.wt x hx);omega
theorem Hv(w:World)(V:aV c=true)(Y:c.kind=3)(Hu:c.threads<=19)(hn:n=c.start.length)(hr:bD w .i64 A c.start)(l:List Int)(D:Option Addr)(R Q:Nat)(U:R=l.length)(n7:(l.length:Int)=bA c)(mX:R<=Q)(hu:fV l)(X:bD w .u64 D l)(t s:Int)(q:Rq)(r:Option Addr)(y E:Nat)(qf:y=q.cases.length)(a6:y<=100000)(hq:cN w bj r q.cases) :
 Calls prog 221 #[.agg #[c.kind,c.threads,c.chans,c.cap,c.nodes,c.aP,c.aB,c.tags,c.bw,c.bn,.slice A n k],.slice D R Q,t,s,.agg #[q.kind,q.arg,q.value,q.dflt,.slice r y E]] w (uN (ja c l t s q) w):=by
 have aq:=size_le V
 have S:Hid (∀a,Below w w a->Calls prog 72 #[.agg #[q.kind,q.arg,q.value,q.dflt,.slice r y E]] a λe w'=>e=.returned (Mo.bt q)/\Below a a w'):=λa hx=>by
  rw[qf]
  exact mZ a q.kind q.arg q.value q.dflt r E q.cases aa (hq.below hx)
 obtain⟨iF,Le,HQ,O,HN⟩:=bQ (λa (hx:Below w w a)=>mH a D Q l U aa (X.below hx)) (λa (hx:Below w w a)=>Mu a V Y hn (hr.below hx) (k:=k) l D R Q U n7 mX hu (X.below hx)) (λa (hx:Below w w a)=>hq.below hx) V hn
 obtain⟨HR,jf,T,mq⟩:=bh hr U qf Y
 have bJ:Hid (Below w w ((w.alloc (dB c A n k)).alloc (lQ q r y E))):=aj (aj (ai w) _) _
 have uG:Hid (ag ((w.alloc (dB c A n k)).alloc (lQ q r y E)) w.heap.size 24 #[c.kind,c.threads,c.chans,c.cap,c.nodes,c.aP,c.aB,c.tags,c.bw,c.bn,.slice A n k]):=(ag.new _ _ _).alloc _
 have Ze:Hid (ag ((w.alloc (dB c A n k)).alloc (lQ q r y E)) (w.heap.size+1) 38 #[q.kind,q.arg,q.value,q.dflt,.slice r y E]):=(ag.newAt _ _ _ aA)
 clear U n7 mX hu X V hn hr hq qf aq Y
 by_cases b0:t<0
 .exact UI
 by_cases b1:c.threads<=t
 .exact UI
 by_cases b2:s<0
 .exact UI
 by_cases b3:1048575<s
 .exact UI
 rcases L:Mo.bt q with _|_
 .have HE:Hid (ja c l t s q=l):=by unfold Hid ja;rw[ay (.inr (.inr (.inr (.inr L))))]
  rw[L]at S;go_enter func221,ntmps221;go_wp2_with fail;(with_reducible go_fit (S.Y _ bJ.Y));rintro e w1 ⟨rfl,b⟩;have u:=ae (ah bJ b);clear b;go_wp2_with fail;(with_reducible go_fit (iF.Y _ u.Y));rintro e G ⟨B,d,rfl,_,ho,hb⟩;obtain⟨HO,lR⟩:=av ho (ah u hb);clear ho hb;go_wp2;go_ret;exact⟨B,d,by rw[HE.Y,jf.Y];rfl,by rw[HE.Y, <-jf.Y];exact HO.bL u.size,lR⟩
 rw[L]at S
 have K:=ae L
 clear L
 go_enter func221,ntmps221
 go_wp2_with fail
 (with_reducible go_fit (S.Y _ bJ.Y))
 rintro e w1 ⟨rfl,b⟩
 obtain⟨u,f,g⟩:=aS (ah bJ b) (uG.ah b) (Ze.ah b)
 obtain⟨M,-,fE⟩:=ag.aF f
 obtain⟨bN,-,cu⟩:=ag.aF g
 clear b uG Ze bJ
 have Z:(c.kind !=3)=false:=by rw[mq.Y];rfl
 go_wp2_with fail
 (with_reducible go_fit (Le.Y _ u.Y))
 rintro e G (⟨h,hx,j,m,o,v,z,C,rfl,hO,hb2⟩|⟨hx,rfl,hb2⟩)
 .have J:=ae (uI hx);have HE:Hid (ja c l t s q=gI c (cY c h t s q)):=by unfold Hid ja;rw[au (by rw[K.Y];simp;omega),hx]
  obtain⟨bB,iH,gO,P⟩:=bh (ah (ah u hb2) (aj (ai G) (sY h.ak j h.chans.length v m h.waits.length z o h.done.length C))) ((f.ah hb2).alloc (sY h.ak j h.chans.length v m h.waits.length z o h.done.length C)) ((g.ah hb2).alloc (sY h.ak j h.chans.length v m h.waits.length z o h.done.length C)) (hO.more (aj (ai G) (sY h.ak j h.chans.length v m h.waits.length z o h.done.length C)));have xy:Hid (ag (G.alloc (sY h.ak j h.chans.length v m h.waits.length z o h.done.length C)) G.heap.size 45 #[h.ak,.slice j h.chans.length v,.slice m h.waits.length z,.slice o h.done.length C]):=ag.new _ _ _;clear hx hO hb2 M bN fE cu Z;go_upto_region 11 with fail
  generalize G.heap.size=p at xy ⊢;generalize(G.alloc (sY h.ak j h.chans.length v m h.waits.length z o h.done.length C))=N at *;have M:=λa (hx:Ext N a) i=>ag.cell (iH.ah hx.Y) i;have bN:=λa (hx:Ext N a) i=>ag.cell (gO.ah hx.Y) i;have aC:=λa (hx:Ext N a) i=>ag.cell (xy.ah hx.Y) i;have fE:=iH.lt;have cu:=gO.lt;have bb:=xy.lt;have F:Hid (h.chans.length<=8/\h.waits.length<=19/\h.done.length<=19/\h.done.length=h.waits.length/\t<h.waits.length/\0<=h.ak/\h.ak<=4294967295/\c.bn<=4095/\c.chans<=8):=q7 J Hu O aa;obtain⟨HA,I⟩:=av (mD J (t:=t) (seq:=s) (q:=q) aa K) (λa (hx:Ext N a)=>Hj a (sq:=s) (t:=t) (A:=A) (n:=n) (k:=k) (c:=c) (h:=h) j m o _ _ _ v z C rfl rfl rfl ((P.more hx.Y).ch.GO) ((P.more hx.Y).wt.GO) ((P.more hx.Y).dn.xS.2) (Cw J Hu F.2.2.2.2.2.2.2.2 O) F.2.2.2.2.2.2.2.1 q r y E T (HQ a (ah bB hx.Y)) K F.2.2.2.1 aa F.2.2.2.2.1 ⟨F.2.2.2.2.2.1,F.2.2.2.2.2.2.1⟩ (by have h1:=(tF J (t:=t) (seq:=s) (q:=q) aa K).1.zo;have h2:=J.zo;omega));have H:Hid ((cY c h t s q).chans.length<=100000/\(cY c h t s q).waits.length<=100000/\(cY c h t s q).done.length<=100000/\(∀x∈(cY c h t s q).chans,x.buf.length<=100000)/\∀x∈(cY c h t s q).waits,x.cases.length<=100000):=Mw HA O;generalize cY c h t s q=h' at I H HE;clear F HA P f g Le;go_region_held3(Ext N) (with_reducible(repeat(first|assumption|exact Ext.start _|exact Ext.iD _ _|refine Ext.alloc ?_ _))) (first
   |((with_reducible go_fit (I.Y _ (by assumption)));rintro e w4 ⟨C1,C2,C3,k1,k2,k3,rfl,Ho,W⟩;have xd:=Ext.to (by assumption) W;have j7:=ae Ho;clear Ho)
   |((with_reducible go_fit (EC _ O.Y HN.Y (HR.Y.below (ah bB.Y xd.Y)) j7.Y H.Y.1 H.Y.2.1 H.Y.2.2.1 H.Y.2.2.2.1 H.Y.2.2.2.2));rintro e w5 ⟨B5,d5,rfl,Za,dJ⟩;have Hw:=Ext.to (by assumption) dJ))
  all_goals
   go_wp2;go_ret;exact⟨B5,d5,by rw[HE.Y];rfl,by rw[HE.Y];exact Za.bL (bm bB.size xd.Y.size),ah bB Hw.Y⟩
 .have HE:Hid (ja c l t s q=l):=by unfold Hid ja;rw[au (by rw[K.Y];simp;omega),hx]
  have bB:=ae ((ah u hb2).alloc (ah u hb2).size sj);exact ac5
def FD:ux Mo.Op:=λw S r x=>∃B d,r=[.int .i64 x.th,.int .i64 x.seq,.int .i64 x.phase,.int .i64 x.aQ.kind,.int .i64 x.aQ.arg,.int .i64 x.aQ.value,.bool x.aQ.dflt,.slice B x.aQ.cases.length d]/\eo w S bj B x.aQ.cases
theorem jz:Good FD:=⟨λa ⟨B,d,h1,h3⟩=>⟨B,d,h1,h3.mono a⟩,λa ⟨B,d,h1,h3⟩=>⟨B,d,h1,h3.same a⟩⟩
theorem Mo.Mx(c:Mo.dG)(l:List Int){f:List Mo.Op}{x:Mo.Op}(h:f[j]?=some x):Mo.pZ c l (f.take (j+1))=Mo.ja c (Mo.pZ c l (f.take j)) x.th x.seq x.aQ:=by unfold Mo.pZ;rw[eM h,List.foldl_append];rfl
theorem QC(w:World)(U:aV c=true)(hk:c.kind=3)(Hu:c.threads<=19)(hn:n=c.start.length)(H:bD w .i64 A c.start)(l:List Int)(D:Option Addr)(y dd:Nat)(Q:y=l.length)(n7:(l.length:Int)=bA c)(hu:fV l)(hD:bD w .u64 D l)(f:List Mo.Op)(B:Option Addr)(s bd:Nat)(E:s=f.length)(pD:s<=100000)(R:∀b,S b->b<w.heap.size)(ho:jv 8 FD w S B f)(F:∀x∈f,x.aQ.cases.length<=100000) :
 Calls prog 193 #[.agg #[.int .i64 c.kind,.int .i64 c.threads,.int .i64 c.chans,.int .i64 c.cap,.int .i64 c.nodes,.int .i64 c.aP,.int .i64 c.aB,.int .i64 c.tags,.int .i64 c.bw,.int .i64 c.bn,.slice A n k],.slice D y dd,.slice B s bd] w (uN (pZ c l f) w):=by
 have V:=size_le U
 obtain⟨iF,QD,HO,Nl,fW,jf⟩:=cS (λp (a:Below w w p)=>mH p D dd l Q aa (hD.below a)) (λp (a:Below w w p)=>Hv p U hk Hu hn (H.below a) (k:=k)) (λp (a:Below w w p)=>ho.below jz R a) F E Q
 clear hk
 obtain⟨C,HU,KX⟩:=aS n7 hu R
 have P:Hid (Below w w (w.alloc (dB c A n k))):=aj (ai w) _
 have uG:Hid (ag (w.alloc (dB c A n k)) w 24 #[.int .i64 c.kind,.int .i64 c.threads,.int .i64 c.chans,.int .i64 c.cap,.int .i64 c.nodes,.int .i64 c.aP,.int .i64 c.aB,.int .i64 c.tags,.int .i64 c.bw,.int .i64 c.bn,.slice A n k]):=(ag.new _ _ _)
 clear Q n7 hu hD U hn H ho F E R V
 go_enter func193,ntmps193
 go_wp2_with fail
 go_fit (iF _ P)
 rintro e w1 ⟨B1,d1,rfl,_,fe,h⟩
 obtain⟨iU,br,eZ⟩:=aS fe (ah P h) (uG.ah h)
 clear fe h uG
 go_wp2
 go_loopw[7,9,14] (λo _ i wr=>∃(j:Nat) (t:Option Addr) (d2:Nat),j<=s/\i=.int .i64 j/\o=.slice t y d2/\Hid (aK wr w 69 .u64 (.slice t y d2) (pZ c l (f.take j)))/\Hid (Below w w wr)/\Hid (ag wr w 24 #[.int .i64 c.kind,.int .i64 c.threads,.int .i64 c.chans,.int .i64 c.cap,.int .i64 c.nodes,.int .i64 c.aP,.int .i64 c.aB,.int .i64 c.tags,.int .i64 c.bw,.int .i64 c.bn,.slice A n k])) (λ_ _ i _=>s-(intOf i).toNat)
 case atStart=>exact⟨0,B1,d1,aZ _,rfl,rfl,iU.bL P.size,br,eZ⟩
 case round =>
  obtain⟨j,t,d2,hj,rfl,rfl,v,u,W⟩:=hrel;obtain⟨cU,-,eB⟩:=ag.aF W;by_cases T:j<s
  .obtain⟨ad,x,r,hA,a,⟨J,d,H,Z⟩,iX,hcell⟩:=jv.at_ af (HO wr u) (i:=j) (by rw[<-fW.Y];exact T);subst hA H;have c0:=hcell 0 _ rfl;have c1:=hcell 1 _ rfl;have c2:=hcell 2 _ rfl;have c3:=hcell 3 _ rfl;have c4:=hcell 4 _ rfl;have c5:=hcell 5 _ rfl;have c6:=hcell 6 _ rfl;have c7:=hcell 7 _ rfl;rw[add_zero]at c0;rw[add_lit _ _ af]at c1 c2 c3 c4 c5 c6 c7;have z:Hid (pZ c l (f.take (j+1))=ja c (pZ c l (f.take j)) x.th x.seq x.aQ):=Mx c l a;have O:=ae (Nl x (bo a));obtain⟨M,G⟩:=aw (pZ c l (f.take j));have Y:Hid ((M.length:Int)=bA c):=by unfold Hid;rw[G];exact xJ _ C
   have N:Hid (fV M):=by unfold Hid;rw[G];exact Jk _ HU
   have C0:Hid (((pZ c l (f.take (j+1))).length:Int)=bA c):=xJ _ C;rw[<-G]at v z;have Sr:=ae Z;have i1:(0:Int)<=(j:Int):=aa;have i2:(j:Int)<(s:Int):=aa;have g:=v.cap;have q:=ae (aj (ai wr) (.cells #[.int .i64 x.th,.int .i64 x.seq,.int .i64 x.phase,.int .i64 x.aQ.kind,.int .i64 x.aQ.arg,.int .i64 x.aQ.value,.bool x.aQ.dflt,.slice J x.aQ.cases.length d] 40));obtain⟨K,L⟩:=av (QD (wr.alloc (.cells #[.int .i64 x.th,.int .i64 x.seq,.int .i64 x.phase,.int .i64 x.aQ.kind,.int .i64 x.aQ.arg,.int .i64 x.aQ.value,.bool x.aQ.dflt,.slice J x.aQ.cases.length d] 40)) (ah u q) M t y d2 g.1 Y g.2 N ((v.ah q).pw.2) x.th x.seq x.aQ J x.aQ.cases.length d rfl O (Sr.1.below q)) g;clear a G Z hcell iX g;go_wp2_with fail;refine K.mono ?_;rintro e w2 ⟨D3,d3,rfl,I,m⟩;have X:(ja c M x.th x.seq x.aQ).length=y:=by have h1:=C0.Y;rw[z.Y]at h1;have h2:=L.Y;have h3:=Y.Y;omega
   rw[X]at I ⊢;obtain⟨j5,bU,mq⟩:=aS (I.bL (base':=w.heap.size) (by have:=u.size;have:=q.size;omega)) (ah (ah u q) m) (W.ah (ah q m));clear I m X cU eB c0 c1 c2 c3 c4 c5 c6 c7;go_wp2;go_roundw;case rel=>exact⟨j+1,D3,d3,aa,by go_num,rfl,by unfold Hid;rw[z.Y];exact j5.Y,bU,mq⟩
   case measure=>simp[intOf];omega
  .have z:Hid (pZ c l (f.take j)=pZ c l f):=by unfold Hid;rw[List.take_of_length_le (by have:=fW.Y;omega)]
   have g:=v.cap;go_wp2;go_ret;rw[<-z.Y];exact⟨t,d2,by rw[<-g.1];rfl,by rw[<-g.1];exact v.Y,u⟩
end Go.Proofs.YtpfbfhfcbdbglaaGreat
