/- Walks and plain facts. No condition. -/
import Derived.Test.YtpfbfhfcbdbglaaGreatPd
import Derived.Test.YtpfbfhfcbdbglaaGreatPi
import Derived.Test.YtpfbfhfcbdbglaaGreatPl
namespace Go.Proofs.YtpfbfhfcbdbglaaGreat
open Go.RowKit Go.Proofs.Tryz Mo
set_option maxHeartbeats 8000000
set_option maxRecDepth 100000
set_option linter.all false
variable {w w1 wx wy w' W:World}{A A1 A2 A3:Option Addr}{n k p g b x0 j d base dl bs g4 g5:Nat}{c:Mo.dG}{t sq:Int}{r:Mo.Rn}{s:Sh}{h:Mo.Hl}{v v1 v2 v':Value}{α:Type}{x x':Mo.Mc}{e t1:TypeId}{a:Act}{fn:Func}{tmps arr:Array Value}{p1:Addr}{L outs:List Int}{ops:Array Oper}{op:Oper}{D:Nat->Prop}{xs:List α}
theorem dx.ofH{f i l:Option Addr}{d1 d2 d3:Nat}(H:qZ w base h f i l h.chans.length h.waits.length h.done.length d1 d2 d3)(m:base<=w.heap.size):Dd (w.alloc (.cells #[.int .i64 h.ak,.slice f h.chans.length d1,.slice i h.waits.length d2,.slice l h.done.length d3] 45)) base w h f i l d1 d2 d3 :=
 have a:=H.more (aj (ai w) (.cells #[.int .i64 h.ak,.slice f h.chans.length d1,.slice i h.waits.length d2,.slice l h.done.length d3] 45))
 ⟨ag.new _ _ _,a.ch,a.wt,a.dn,m,by decide⟩
theorem wK(w:World)(A1 A2 A3:Option Addr)(n1 n2 n3 m1 m2 m3:Nat)(mI:n1=h.chans.length)(pG:n2=h.waits.length)(sH:n3=h.done.length)(H:wu w h A1 A2 A3)(B:GN h)(nA:c.bn<=4095)(q:Rq)(D:Option Addr)(E J:Nat)(qf:E=q.cases.length)(hr:cN w bj D q.cases)(hq:Mo.bt q=true)(fF:h.done.length=h.waits.length){t:Nat}(ht:t<h.waits.length)(uw:0<=h.ak/\h.ak<=4294967295)(a8:(eR c h t sq q).1.done.length=h.done.length) :
 Calls prog 30 #[j8 c A n k,.agg (rZ h.ak A1 n1 m1 A2 n2 m2 A3 n3 m3),t,sq,.agg #[q.kind,q.arg,q.value,q.dflt,.slice D E J]] w (Nx (cY c h t sq q) w):=by
 have hk:=(gY.1 hq).1
 obtain⟨W,G⟩:=aw ((((w.alloc (dB c A n k)).alloc (.cells (rZ h.ak A1 n1 m1 A2 n2 m2 A3 n3 m3) 45)).alloc (lQ q D E J)).alloc sj)
 have dO:Below w w W:=by rw[G];exact aj (aj (aj (aj (ai w) _) _) _) _
 have eW:Hid (ag W w 24 #[c.kind,c.threads,c.chans,c.cap,c.nodes,c.aP,c.aB,c.tags,c.bw,c.bn,.slice A n k]):=by rw[G];exact(((ag.new _ _ _).alloc _).alloc _).alloc _
 have rH:Hid (ag W (w.heap.size+1) 45 #[h.ak,.slice A1 n1 m1,.slice A2 n2 m2,.slice A3 n3 m3]):=by rw[G];exact((ag.newAt _ _ _ aA).alloc _).alloc _
 have ig:Hid (ag W (w.heap.size+2) 38 #[q.kind,q.arg,q.value,q.dflt,.slice D E J]):=by rw[G];exact(ag.newAt _ _ _ aA).alloc _
 have gC:Hid (ag W (w.heap.size+3) 45 #[oZ,oN,oN,oN]):=by rw[G];exact ag.newAt _ _ _ aA
 have lC:=ae (Iu W h A1 A2 A3 n1 n2 n3 m1 m2 m3 mI pG sH B (H.ext dO))
 have cy:W.heap.size=w.heap.size+4:=by rw[G];simp
 obtain⟨HW,Z,X,V,HT,M⟩:=cS G dO B fF ht a8
 obtain⟨HN,HR,HF⟩:=aS qf hr hq
 clear mI pG sH H B qf hr hq fF ht a8 G dO
 obtain⟨pp,Al⟩:=aw (eR c h t sq q)
 rw[<-Al]at M
 obtain⟨x,m,o,u,s⟩:=q
 dsimp only at *
 obtain⟨a,S⟩:=aw (cY c h t sq ⟨x,m,o,u,s⟩)
 rw[<-S]
 have ZN:=ae S
 have b7:Hid (t<pp.1.done.length):=Nat.lt_of_lt_of_eq HT.Y (V.Y.symm.trans M.Y.symm)
 clear S M
 unfold rZ j8 at *
 go_enter func30,ntmps30
 go_upto_region 1 with fail
 simp only[Nat.add_assoc,Nat.reduceAdd]
 rw[<-HW.Y]
 obtain⟨cv,-,rX⟩:=ag.aF rH.Y
 go_wp2_with fail
 go_fit lC.Y
 rintro e w1 ⟨j,B2,d,d1,d2,d3,rfl,hO,Q⟩
 have U:=Q.size
 have bE:=ah Q (aj (ai w1) (.cells #[.int .i64 h.ak,.slice j h.chans.length d1,.slice B2 h.waits.length d2,.slice d h.done.length d3] 45))
 obtain⟨lM,L⟩:=av (dx.ofH hO U) bE
 clear hO Q bE cv rX lC rH HW
 go_upto_region 2 with fail
 obtain⟨g,hg⟩:=aw w1.heap.size
 rw[<-hg]at lM ⊢
 have zO:W.heap.size<=g:=by rw[hg];exact U
 clear hg U
 generalize w1.alloc (.cells #[.int .i64 h.ak,.slice j h.chans.length d1,.slice B2 h.waits.length d2,.slice d h.done.length d3] 45)=w3 at *
 go_wp2_with fail
 go_fit (ei w3 1)
 rintro e w4 ⟨rfl,R⟩
 have Gu:=ah R (aj (ai w4) (qh 0 0 1 0))
 have V8:=R.size
 obtain⟨nD,C,qT,iA,z⟩:=bQ Gu (lM.Y.more Gu) ((eW.Y.ah L.Y).ah Gu) ((ig.Y.ah L.Y).ah Gu) (ag.new w4 64 #[.int .i64 0,.int .i64 0,.int .i64 1,.int .i64 0])
 go_upto_region 3 with fail
 obtain⟨r,hr⟩:=aw w4.heap.size
 rw[<-hr]at z ⊢
 have T:w3.heap.size<=r:=by rw[hr];exact V8
 have iG:=ae (gC.Y.ah L.Y)
 clear hr V8 R Gu eW ig gC
 generalize w4.alloc (qh 0 0 1 0)=f at *
 obtain⟨cU,-,eB⟩:=ag.aF qT.Y
 obtain⟨gB,-,bz⟩:=ag.aF iA.Y
 obtain⟨K,Y,l⟩:=ag.aF z.Y
 have pS:=HR.Y.below (ah Z.Y (ah L.Y nD.Y))
 have oD:x=1\/x=2\/x=3\/x=4\/x=5\/x=6\/x=7\/x=8\/x=9:=by omega
 clear hk
 have Nw:=ae Al
 clear Al
 have b6:Hid (a={pp.1 with done:=pp.1.done.set t ⟨sq,pp.2.cs,pp.2.code,pp.2.value⟩}):=by unfold Hid;rw[ZN.Y];unfold cY cY.xC;dsimp only;rw[<-Nw.Y,au (by omega),fR]
 have za:=ae (λ(p:Hl×Rs) (e:Ending) w6 (hE:MN W g j d d1 d3 p f e w6)=>HvE.pass hE lM.Y C.Y nD.Y T (c1:=[.int .i64 0,.int .i64 0,.int .i64 1,.int .i64 0]) z.Y rfl)
 rcases oD with rfl|rfl|rfl|rfl|rfl|rfl|rfl|rfl|rfl
 go_wp2_with fail
 go_fit (show Calls _ _ _ _ (MN W g j d d1 d3 (eR c h t sq ⟨1,m,o,u,s⟩) f)from Iq f C.Y X.Y nA m)
 rotate_left
 go_wp2_with fail
 go_fit (show Calls _ _ _ _ (MN W g j d d1 d3 (eR c h t sq ⟨2,m,o,u,s⟩) f)from nU f C.Y X.Y ⟨2,m,o,u,s⟩ D E J V.Y (.inl rfl))
 rotate_left
 go_wp2_with fail
 go_fit (show Calls _ _ _ _ (MN W g j d d1 d3 (eR c h t sq ⟨3,m,o,u,s⟩) f)from CC f C.Y X.Y ⟨3,m,o,u,s⟩ D E J HN.Y pS HF.Y V.Y (sq:=sq) HT.Y uw)
 rotate_left
 go_wp2_with fail
 go_fit (show Calls _ _ _ _ (MN W g j d d1 d3 (eR c h t sq ⟨4,m,o,u,s⟩) f)from nU f C.Y X.Y ⟨4,m,o,u,s⟩ D E J V.Y (.inr (.inl rfl)))
 rotate_left
 go_wp2_with fail
 go_fit (show Calls _ _ _ _ (MN W g j d d1 d3 (eR c h t sq ⟨5,m,o,u,s⟩) f)from nU f C.Y X.Y ⟨5,m,o,u,s⟩ D E J V.Y (.inr (.inr (.inl rfl))))
 rotate_left
 go_wp2_with fail
 go_fit (show Calls _ _ _ _ (MN W g j d d1 d3 (eR c h t sq ⟨6,m,o,u,s⟩) f)from nU f C.Y X.Y ⟨6,m,o,u,s⟩ D E J V.Y (.inr (.inr (.inr rfl))))
 rotate_left
 go_wp2_with fail
 go_fit (show Calls _ _ _ _ (MN W g j d d1 d3 (eR c h t sq ⟨7,m,o,u,s⟩) f)from Cz f C.Y X.Y t m o V.Y)
 rotate_left
 iterate 2
  obtain rfl:pp=(h,bg 1):=Nw.Y
  go_wp2_with fail
  obtain⟨a6,nJ⟩:=av (dx.yJ C.Y z.Y af af af af af (λb B e=>by subst e;rw[yD d _ _ h.done.length d3]at B;have:=lM.Y.nY.2.2.2 _ B;omega) 0 [.int .i64 sq]) (az (bm L.Y.size T) [.int .i64 sq] f 0 (nD.Y.mono L.Y.size))
  change Calls _ _ _ (ax f r 0 [.int .i64 sq]) _
  clear K Y l cU eB gB bz
  generalize ax f r 0 [.int .i64 sq]=wz at *
  rotate_left
 iterate 7
  rintro e w6 hE
  rw[<-Nw.Y]at hE
  have he:e=_:=hE.1
  obtain⟨sF,wH,NC⟩:=za.Y _ _ _ hE
  obtain⟨b8,b5,O⟩:=aS wH.2.1 wH.2.2.1 NC
  subst he
  clear hE wH NC cU eB gB bz K Y l
  obtain⟨K,Y,l⟩:=ag.aF sF
  go_upto_region 15 with fail
  change Code.wp _ _ _ _ (ax w6 r 0 [.int .i64 pp.2.seq,.int .i64 pp.2.cs,.int .i64 pp.2.code,.int .i64 pp.2.value])
  clear K Y l sF
  generalize ax w6 r 0 [.int .i64 pp.2.seq,.int .i64 pp.2.cs,.int .i64 pp.2.code,.int .i64 pp.2.value]=wy at *
  obtain⟨cw,cz,ct⟩:=b8.Y
  obtain⟨K,Y,l⟩:=ag.aF O.Y
  obtain⟨a6,N,nJ⟩:=aS (dx.yJ ct O.Y af af af af af (λb B e=>by subst e;rw[yD d _ _ h.done.length d3]at B;have:=lM.Y.nY.2.2.2 _ B;omega) 0 [.int .i64 sq]) (O.Y.bp 0 (.int .i64 sq)) (az (bm L.Y.size T) [.int .i64 sq] wy 0 b5.Y)
  go_upto_region 16 with fail
  change Code.wp _ _ _ _ (ax wy r 0 [.int .i64 sq])
  have N:Hid (ag (ax wy r 0 [.int .i64 sq]) r 64 #[.int .i64 sq,.int .i64 pp.2.cs,.int .i64 pp.2.code,.int .i64 pp.2.value]):=N.Y
  clear K Y l
  generalize ax wy r 0 [.int .i64 sq]=wz at *
  obtain⟨K,-,l⟩:=ag.aF N.Y
  go_wp2_with fail
  clear K l
  rotate_left
 all_goals
  go_fit (sV wz a6.Y t b7.Y ⟨sq,_,_,_⟩);rintro e w8 ⟨rfl,a7,P,_⟩;obtain⟨F,I,y⟩:∃F I,Hid (Dd w8 W g a j F d d1 I d3):=⟨_,_,by rw[b6.Y];exact a7⟩
  obtain⟨aq,GI⟩:=av (ag.below iG.Y (nJ.Y.trans P) (by omega)) (Z.Y.trans ((L.Y.trans (nJ.Y.trans P)).mono Z.Y.size));clear a7 P;obtain⟨cI,-,eH⟩:=ag.aF y.Y.blk;obtain⟨bN,cj,cu⟩:=ag.aF aq.Y;go_wp2_with fail;clear cI eH bN cj cu;obtain⟨TW,hz⟩:=o7.one (v1:=[.int .i64 a.ak,.slice j a.chans.length d1,.slice F a.waits.length I,.slice d a.done.length d3]) aq.Y rfl;have kL:Nx a w (.returned (.agg #[.int .i64 a.ak,.slice j a.chans.length d1,.slice F a.waits.length I,.slice d a.done.length d3])) (ax w8 (w.heap.size+3) 0 [.int .i64 a.ak,.slice j a.chans.length d1,.slice F a.waits.length I,.slice d a.done.length d3]):=⟨_,_,_,_,_,_,rfl,⟨(TW.qR cd y.Y.chans af af af af).bL Z.Y.size,(TW.qR aI y.Y.waits af af af af).bL Z.Y.size,aH.bL (TW.own y.Y.done af af) Z.Y.size⟩,az (Nat.le_add_right _ _) _ _ _ GI.Y⟩
  change bodyPost _ _ _ _ _ (ax w8 (w.heap.size+3) 0 [.int .i64 a.ak,.slice j a.chans.length d1,.slice F a.waits.length I,.slice d a.done.length d3]);generalize ax w8 (w.heap.size+3) 0 [.int .i64 a.ak,.slice j a.chans.length d1,.slice F a.waits.length I,.slice d a.done.length d3]=wq at *;have fy:=λi=>ag.cell hz i;refine bodyPost_ret (v:=.agg #[.int .i64 a.ak,.slice j a.chans.length d1,.slice F a.waits.length I,.slice d a.done.length d3]) ?_ rfl kL;simp[results,results30,go_sem,fy]
theorem qZ.hrX{n1 n2 n3:Nat}{m1 m2 m3:Nat}(H:qZ w base h A1 A2 A3 n1 n2 n3 m1 m2 m3):wu w h A1 A2 A3:=wu.own H.ch H.wt H.dn
theorem ET(w:World)(l:aV c=true)(o:c.kind=3)(q:n=c.start.length)(u:bD w .i64 A c.start) :
 Calls prog 7 #[j8 c A n k] w (uN (gI c (eb c)) w):=by
 have F:=pn l o
 obtain⟨W,f⟩:=aw (w.alloc (dB c A n k))
 have h:Below w w W:=by rw[f];exact aj (ai w) _
 have z:Hid (ag W w 24 #[c.kind,c.threads,c.chans,c.cap,c.nodes,c.aP,c.aB,c.tags,c.bw,c.bn,.slice A n k]):=by rw[f];exact ag.new _ _ _
 have K:=ae (lj W l q (u.below h) (k:=k))
 have d1:(c.kind==3)=true:=by rw[o];rfl
 have G:=ae (λb (d:Below w w b)=>ES b l o q (u.below d) (k:=k))
 have E:=ae (λb r (d:Below w w r) (s t v:Option Addr) (m1 m2 m3:Nat) (H:qZ r b (eb c) s t v (eb c).chans.length (eb c).waits.length (eb c).done.length m1 m2 m3)=>vr r q (u.below d) F (qZ.hrX H) (k:=k) (m1:=m1) (m2:=m2) (m3:=m3) rfl rfl rfl)
 obtain⟨I,L⟩:=av f h
 clear F l o q u f h
 obtain⟨x,-,y⟩:=ag.aF z.Y
 unfold j8 at *
 go_enter func7,ntmps7
 go_upto_region 1 with fail
 rw[<-I.Y]
 go_wp2_with fail
 go_fit K.Y
 rintro e B ⟨rfl,a⟩
 clear x y
 obtain⟨g,j⟩:=av (ah L.Y a) (z.Y.ah a)
 have x:=λb (d:Ext B b) i=>ag.cell (j.Y.ah d.Y) i
 have J:=λi=>ag.cell j.Y i
 have y:=j.Y.lt
 clear a
 go_upto_region 4 with fail
 clear J
 go_region_held3(Ext B) (with_reducible(first|assumption|exact Ext.start _)) (first
  |((with_reducible refine(G.Y _ ?_).mono ?_);(exact ah g.Y (Ext.Y (by assumption)));rintro e P ⟨s,t,v,m1,m2,m3,rfl,M,m⟩;have O:=Ext.to (by assumption) m)
  |((with_reducible refine(E.Y _ _ ?_ _ _ _ _ _ _ M).mono ?_);(exact ah g.Y (Ext.Y (by assumption)));rintro e Q ⟨D,d3,rfl,C,p⟩;have N:=Ext.to (by assumption) p))
 go_wp2
 go_ret
 exact⟨D,d3,rfl,aK.bL C (ah g.Y O.Y).size,ah g.Y N.Y⟩
theorem EU(w:World)(F:kJ c h)(Hu:c.threads<=19)(S:n=c.start.length)(U:bD w .i64 A c.start)(D:Option Addr)(O:Nat)(J:dl=(gI c h).length)(Q:bD w .u64 D (gI c h)){t:Nat}(ht:(t:Int)<c.threads)(V:0<=sq/\sq<=1048575)(q:Rq)(E:Option Addr)(z y:Nat)(qf:z=q.cases.length)(T:cN w bj E q.cases)(u:Mo.bt q=true) :
 Calls prog 11 #[j8 c A n k,.slice D dl O,t,sq,.agg #[q.kind,q.arg,q.value,q.dflt,.slice E z y]] w (uN (gI c (cY c h t sq q)) w):=by
 have p:=q7 F Hu F.ee ht
 obtain⟨W,s⟩:=aw ((w.alloc (dB c A n k)).alloc (lQ q E z y))
 have dO:Below w w W:=by rw[s];exact aj (aj (ai w) _) _
 have eW:Hid (ag W w 24 #[c.kind,c.threads,c.chans,c.cap,c.nodes,c.aP,c.aB,c.tags,c.bw,c.bn,.slice A n k]):=by rw[s];exact(ag.new _ _ _).alloc _
 have ig:Hid (ag W (w.heap.size+1) 38 #[q.kind,q.arg,q.value,q.dflt,.slice E z y]):=by rw[s];exact ag.newAt _ _ _ aA
 have hl:dl<=1000:=by rw[J,QI F];unfold sg;have hp:=Mo.aO F.ee;have:=xk (gb.2 F);have:=hp.2.2.2.2.2.2.2.2;have:=Nat.mul_le_mul (show 1+c.cap.toNat<=9 by omega) (show c.chans.toNat<=8 by omega);omega
 have FA:=mD F (t:=t) V u
 have d1:(c.kind==3)=true:=by rw[F.kind];rfl
 have uC:=ae (λa (b:Below w w a)=>Bd a q E y qf (by have:=(gY.1 u).2.2.2.1;omega) (T.below b))
 rw[u]at uC
 have jC:=ae (λa (b:Below w w a)=>yV a S (U.below b) F D O J (xg F) (Q.below b) (k:=k))
 have QD:=ae (λa (b:Below w w a) (j l m:Option Addr) (m1 m2 m3:Nat) (H:wu a h j l m)=>wK a (A:=A) (n:=n) (k:=k) j l m _ _ _ m1 m2 m3 rfl rfl rfl H (Cw F Hu p.2.2.2.2.2.2.2.2 F.ee) p.2.2.2.2.2.2.2.1 q E z y qf (T.below b) u p.2.2.2.1 (by have:=p.2.2.2.2.1;omega) ⟨p.2.2.2.2.2.1,p.2.2.2.2.2.2.1⟩ (sq:=sq) (t:=t) (by have h1:=(tF F (t:=t) (seq:=sq) (q:=q) V u).1.zo;have h2:=F.zo;omega))
 have HP:=ae (λa r (b:Below w w r) (j l m:Option Addr) (m1 m2 m3:Nat) (H:qZ r a (cY c h t sq q) j l m (cY c h t sq q).chans.length (cY c h t sq q).waits.length (cY c h t sq q).done.length m1 m2 m3)=>vr r S (U.below b) FA (qZ.hrX H) (k:=k) (m1:=m1) (m2:=m2) (m3:=m3) rfl rfl rfl)
 have t0:¬(t:Int)<0:=aa
 have t1:¬c.threads<=t:=aa
 have s0:¬sq<0:=aa
 have s1:¬1048575<sq:=aa
 obtain⟨HW,bJ,M,jf⟩:=bh s dO Q J
 clear V p F FA S U J Q T qf u s dO
 unfold j8 at *
 go_enter func11,ntmps11
 go_upto_region 1 with fail
 rw[<-HW.Y]
 go_wp2_with(at_builtin;refine bS _ rfl _ _ 30 rfl W 69 .u64 underlying30 gZ _ [] rfl (aK.empty _ _ _) D dl O _ rfl jf.Y.symm (bD.alloc (M.Y.below bJ.Y) _) ?c4 ?c6 ?_)
 case c4=>have:=jf.Y;simp;omega
 intro v1 w1 h1 g1 _
 have d:=aK.aW (aK.empty W 69 .u64) (aj (ai W) _) g1 (by simp) (aR _)
 obtain⟨nj,P,Y⟩:=aS (ah bJ.Y d) (eW.Y.ah d) (ig.Y.ah d)
 clear h1 g1 d eW ig
 obtain⟨G,-,I⟩:=ag.aF P.Y
 obtain⟨gB,-,x⟩:=ag.aF Y.Y
 go_wp2_with fail
 go_fit (uC.Y _ nj.Y)
 rintro e w2 ⟨rfl,f⟩
 obtain⟨Z,X,jw⟩:=aS (ah nj.Y f) (P.Y.ah f) (Y.Y.ah f)
 clear f G I gB x nj P Y
 obtain⟨G,-,I⟩:=ag.aF X.Y
 go_wp2_with fail
 go_fit (jC.Y _ Z.Y)
 rintro e K ⟨j,l,m,m1,m2,m3,rfl,hH,v⟩
 unfold rZ
 obtain⟨o,C⟩:=aw (K.alloc (.cells (rZ h.ak j h.chans.length m1 l h.waits.length m2 m h.done.length m3) 45))
 have fh:Hid (Below K K o):=by rw[C];exact aj (ai _) _
 have Sa:Hid (ag o K 45 #[h.ak,.slice j h.chans.length m1,.slice l h.waits.length m2,.slice m h.done.length m3]):=by rw[C];exact ag.new _ _ _
 have g:=ah v fh.Y
 obtain⟨B,rG,kG,N⟩:=bh (ah Z.Y g) (X.Y.ah g) (jw.Y.ah g) (hH.ext fh.Y)
 have Ci:=ae C
 clear hH v g G I Z X jw C
 unfold rZ at Ci
 go_upto_region 6 with fail
 rw[<-Ci.Y]
 have G:=λa (b:Ext o a) i=>ag.cell (rG.Y.ah b.Y) i
 have gB:=λa (b:Ext o a) i=>ag.cell (kG.Y.ah b.Y) i
 have aq:=λa (b:Ext o a) i=>ag.cell (Sa.Y.ah b.Y) i
 have I:=rG.Y.lt
 have x:=kG.Y.lt
 have rX:=Sa.Y.lt
 have L:=ae (λa (b:Ext o a)=>QD.Y a (ah B.Y b.Y) j l m m1 m2 m3 (N.Y.ext b.Y))
 have CX:=ae (λa r (b:Ext o r)=>HP.Y a r (ah B.Y b.Y))
 go_upto_region 8 with fail
 go_region_held3(Ext o) (with_reducible(first|assumption|exact Ext.start _)) (first
  |((with_reducible refine(L.Y _ (by assumption)).mono ?_);rintro e w5 ⟨C1,C2,C3,k1,k2,k3,rfl,hO,dJ⟩;have Hw:=Ext.to (by assumption) dJ)
  |((with_reducible refine(CX.Y _ _ (by assumption) _ _ _ _ _ _ hO).mono ?_);rintro e w6 ⟨B6,d6,rfl,Ah,fp⟩;have R:=Ext.to (by assumption) fp))
 go_wp2
 go_ret
 exact⟨B6,d6,rfl,aK.bL Ah (ah B.Y Hw.Y).size,ah B.Y R.Y⟩
structure Iv (w W:World) (q r:Nat) (h:Mo.Hl) (A1 A2 A3:Option Addr) (wx:World):Prop where
 ext:Below w w wx
 blk:∀k t ys,k≠q->k≠r->ag W k t ys->ag wx k t ys
 hr:wu wx h A1 A2 A3
 kq:∃ys,ag wx q 45 ys
 kr:∃ys,ag wx r 45 ys
 lo:w.heap.size<=q/\w.heap.size<=r
section
variable{q r:Nat}
theorem Iv.more(H:Iv w W q r h A1 A2 A3 wx)(f:Below wx wx wy):Iv w W q r h A1 A2 A3 wy:=⟨ah H.ext f,λk t ys a b c=>(H.blk k t ys a b c).ah f,H.hr.ext f,H.kq.imp λ_ k=>k.ah f,H.kr.imp λ_ k=>k.ah f,H.lo⟩
theorem Iv.set(H:Iv w W q r h A1 A2 A3 wx)(l:p=q\/p=r)(i:Nat)(v:Value):Iv w W q r h A1 A2 A3 (wx.setCell ⟨p,i,none⟩ v):=by
 have f:∀b,b≠p->(wx.setCell ⟨p,i,none⟩ v).heap[b]?=wx.heap[b]?:=λb d=>dE _ _ _ _ d;obtain⟨ys,j⟩:∃ys,ag wx p 45 ys:=l.elim (λe=>e▸H.kq) λe=>e▸H.kr
 have d:∀k,(∃ys,ag wx k 45 ys)->∃ys,ag (wx.setCell ⟨p,i,none⟩ v) k 45 ys:=λk ⟨g,hz⟩=>by
  by_cases e:k=p
  .subst e;exact⟨_,hz.bp i v⟩
  .exact⟨g,(f k e).trans hz⟩
 exact⟨H.ext.setCell (p:=⟨p,i,none⟩) (l.elim (λe=>e▸H.lo.1) λe=>e▸H.lo.2) v,λk t g a b c=>(f k (l.elim (λe=>e▸a) λe=>e▸b)).trans (H.blk k t g a b c),H.hr.b9 j ⟨by decide,by decide,by decide,by decide,by decide⟩ f,d q H.kq,d r H.kr,H.lo⟩
end
def QR(h g:Hl)(w:World)(e:Ending)(w':World):Prop :=∃A1 A2 A3 d f i a b c d1 d2 d3,e=.returned (.tuple #[.agg (rZ h.ak A1 h.chans.length d A2 h.waits.length f A3 h.done.length i),.agg (rZ g.ak a g.chans.length d1 b g.waits.length d2 c g.done.length d3),true])/\wu w' h A1 A2 A3/\wu w' g a b c/\Below w w w'
theorem MP(w:World)(F:kJ c h)(Hu:c.threads<=19)(hn:n=c.start.length)(hr:bD w .i64 A c.start)(D:Option Addr)(dd:Nat)(fF:dl=(gI c h).length)(hD:bD w .u64 D (gI c h)){t:Nat}{ph:Int}(M:(t:Int)<c.threads)(hs:0<=sq/\sq<=1048575)(q:Rq)(E:Option Addr)(O U:Nat)(qf:O=q.cases.length)(hq:cN w bj E q.cases)(hf:Mo.bt q=true) :
 Calls prog 10 #[j8 c A n k,.slice D dl dd,.agg #[t,sq,ph,q.kind,q.arg,q.value,q.dflt,.slice E O U]] w (QR h (cY c h t sq q) w):=by
 have J:=q7 F Hu F.ee M
 obtain⟨W,I⟩:=aw ((((w.alloc (dB c A n k)).alloc (.cells #[t,sq,ph,q.kind,q.arg,q.value,q.dflt,.slice E O U] 40)).alloc sj).alloc sj)
 have S:Below w w W:=by rw[I];exact aj (aj (aj (aj (ai w) _) _) _) _
 have eW:Hid (ag W w 24 #[c.kind,c.threads,c.chans,c.cap,c.nodes,c.aP,c.aB,c.tags,c.bw,c.bn,.slice A n k]):=by rw[I];exact(((ag.new _ _ _).alloc _).alloc _).alloc _
 have ZO:Hid (ag W (w.heap.size+1) 40 #[.int .i64 t,sq,ph,q.kind,q.arg,q.value,q.dflt,.slice E O U]):=by rw[I];exact((ag.newAt _ _ _ aA).alloc _).alloc _
 have gC:Hid (ag W (w.heap.size+2) 45 #[oZ,oN,oN,oN]):=by rw[I];exact(ag.newAt _ _ _ aA).alloc _
 have ig:Hid (ag W (w.heap.size+3) 45 #[oZ,oN,oN,oN]):=by rw[I];exact ag.newAt _ _ _ aA
 have jC:=ae (yV W hn (hr.below S) F D dd fF (xg F) (hD.below S) (k:=k))
 have QD:=ae (λo (s:Below w w o) (a d f:Option Addr) (j l m:Nat) (H:wu o h a d f)=>wK o (A:=A) (n:=n) (k:=k) a d f _ _ _ j l m rfl rfl rfl H (Cw F Hu J.2.2.2.2.2.2.2.2 F.ee) J.2.2.2.2.2.2.2.1 q E O U qf (hq.below s) hf J.2.2.2.1 (by have:=J.2.2.2.2.1;omega) ⟨J.2.2.2.2.2.1,J.2.2.2.2.2.2.1⟩ (sq:=sq) (t:=t) (by have h1:=(tF F (t:=t) (seq:=sq) (q:=q) hs hf).1.zo;have h2:=F.zo;omega))
 have b5:W.heap.size=w.heap.size+4:=by rw[I];simp
 obtain⟨HW,bJ⟩:=av I S
 generalize cY c h t sq q=G at *
 clear hs J F hn hr fF hD hq qf hf I S
 unfold j8 at *
 go_enter func10,ntmps10
 go_upto_region 1 with fail
 simp only[Nat.add_assoc,Nat.reduceAdd]
 rw[<-HW.Y]
 obtain⟨cU,-,eB⟩:=ag.aF eW.Y
 go_wp2_with fail
 go_fit jC.Y
 rintro e V ⟨a,d,f,j,l,m,rfl,hH,L⟩
 unfold rZ
 obtain⟨r,R⟩:=aw (V.alloc (.cells (rZ h.ak a h.chans.length j d h.waits.length l f h.done.length m) 45))
 have fh:Hid (Below V V r):=by rw[R];exact aj (ai _) _
 have Sa:Hid (ag r V 45 #[h.ak,.slice a h.chans.length j,.slice d h.waits.length l,.slice f h.done.length m]):=by rw[R];exact ag.new _ _ _
 have p:=ah L fh.Y
 have bE:=L.size
 obtain⟨rG,j7,ku,kG⟩:=bh (eW.Y.ah p) (ZO.Y.ah p) (gC.Y.ah p) (ig.Y.ah p)
 have HS:Hid (Iv w r (w.heap.size+2) (w.heap.size+3) h a d f r):=⟨ah bJ.Y p,λ_ _ _ _ _ h=>h,hH.ext fh.Y,⟨_,ku.Y⟩,⟨_,kG.Y⟩,⟨by omega,by omega⟩⟩
 have Ci:=ae R
 clear hH L p cU eB R eW ZO gC ig
 unfold rZ at Ci
 go_upto_region 2 with fail
 rw[<-Ci.Y]
 have cU:=λo (s:Iv w r (w.heap.size+2) (w.heap.size+3) h a d f o) i=>(s.blk _ _ _ (by omega) (by omega) rG.Y).cell i
 have De:=λo (s:Iv w r (w.heap.size+2) (w.heap.size+3) h a d f o) i=>(s.blk _ _ _ (by omega) (by omega) j7.Y).cell i
 have aq:=λo (s:Iv w r (w.heap.size+2) (w.heap.size+3) h a d f o) i=>(s.blk _ _ _ (by omega) (by omega) Sa.Y).cell i
 have eB:=rG.Y.lt
 have a6:=j7.Y.lt
 have rX:=Sa.Y.lt
 have N:=ae (λo (s:Iv w r (w.heap.size+2) (w.heap.size+3) h a d f o)=>QD.Y o s.ext a d f j l m s.hr)
 have Z:Iv w r (w.heap.size+2) (w.heap.size+3) h a d f r.drew:=HS.Y.more (ai _).drew
 go_upto_region 4 with fail
 go_region_held3(λo=>Iv w r (w.heap.size+2) (w.heap.size+3) h a d f o) (with_reducible(repeat(first|assumption|refine Iv.set ?_ (.inl rfl) _ _|refine Iv.set ?_ (.inr rfl) _ _))) (((with_reducible refine(N.Y _ (by assumption)).mono ?_);rintro e P ⟨u,x,y,z,B,C,rfl,hO,dJ⟩;have Q:=ah (ai r).drew dJ;have zJ:=HS.Y.more Q;have pR:=ae hO;obtain⟨T,iA⟩:=av (ku.Y.ah Q) (kG.Y.ah Q);obtain⟨bN,cj,cu⟩:=ag.aF T.Y;obtain⟨gB,nQ,a7⟩:=ag.aF iA.Y;clear hO))
 obtain⟨nD,Y⟩:=av zJ.ext zJ.hr
 clear cU De aq eB a6 rX N Z QD zJ dJ Q
 go_wp2
 clear bN cj cu gB nQ a7
 have JI:ag (ax P (w.heap.size+2) 0 [.int .i64 h.ak,.slice a h.chans.length j,.slice d h.waits.length l,.slice f h.done.length m]) (w.heap.size+2) 45 #[.int .i64 h.ak,.slice a h.chans.length j,.slice d h.waits.length l,.slice f h.done.length m]:=aY T.Y rfl
 have X:=aX iA.Y (b:=w.heap.size+3) (g:=w.heap.size+2) (by omega) [.int .i64 h.ak,.slice a h.chans.length j,.slice d h.waits.length l,.slice f h.done.length m] 0
 have M:45≠3/\45≠101/\45≠50/\45≠99/\45≠64:=by decide
 have a8:=Y.Y.b9 T.Y M (w':=ax P (w.heap.size+2) 0 [.int .i64 h.ak,.slice a h.chans.length j,.slice d h.waits.length l,.slice f h.done.length m]) λb K=>aM K _ _
 have xe:=(qZ.hrX pR.Y).b9 T.Y M (w':=ax P (w.heap.size+2) 0 [.int .i64 h.ak,.slice a h.chans.length j,.slice d h.waits.length l,.slice f h.done.length m]) λb K=>aM K _ _
 have fp:=az (Nat.le_add_right w.heap.size 2) [.int .i64 h.ak,.slice a h.chans.length j,.slice d h.waits.length l,.slice f h.done.length m] _ 0 nD.Y
 change bodyPost _ _ _ _ _ (ax (ax P (w.heap.size+2) 0 [.int .i64 h.ak,.slice a h.chans.length j,.slice d h.waits.length l,.slice f h.done.length m]) (w.heap.size+3) 0 [.int .i64 G.ak,.slice u G.chans.length z,.slice x G.waits.length B,.slice y G.done.length C])
 generalize ax P (w.heap.size+2) 0 [.int .i64 h.ak,.slice a h.chans.length j,.slice d h.waits.length l,.slice f h.done.length m]=w6 at *
 have bz:=aX JI (b:=w.heap.size+2) (g:=w.heap.size+3) (by omega) [.int .i64 G.ak,.slice u G.chans.length z,.slice x G.waits.length B,.slice y G.done.length C] 0
 have Sc:ag (ax w6 (w.heap.size+3) 0 [.int .i64 G.ak,.slice u G.chans.length z,.slice x G.waits.length B,.slice y G.done.length C]) (w.heap.size+3) 45 #[.int .i64 G.ak,.slice u G.chans.length z,.slice x G.waits.length B,.slice y G.done.length C]:=aY X rfl
 have kL:QR h G w (.returned (.tuple #[.agg #[.int .i64 h.ak,.slice a h.chans.length j,.slice d h.waits.length l,.slice f h.done.length m],.agg #[.int .i64 G.ak,.slice u G.chans.length z,.slice x G.waits.length B,.slice y G.done.length C],true])) (ax w6 (w.heap.size+3) 0 [.int .i64 G.ak,.slice u G.chans.length z,.slice x G.waits.length B,.slice y G.done.length C]):=⟨a,d,f,j,l,m,u,x,y,z,B,C,rfl,a8.b9 X M λb K=>aM K _ _,xe.b9 X M λb K=>aM K _ _,az (Nat.le_add_right _ _) _ _ _ fp⟩
 generalize ax w6 (w.heap.size+3) 0 [.int .i64 G.ak,.slice u G.chans.length z,.slice x G.waits.length B,.slice y G.done.length C]=w7 at *
 have bN:=λi=>ag.cell bz i
 have gB:=λi=>ag.cell Sc i
 refine bodyPost_ret (v:=.tuple #[.agg #[.int .i64 h.ak,.slice a h.chans.length j,.slice d h.waits.length l,.slice f h.done.length m],.agg #[.int .i64 G.ak,.slice u G.chans.length z,.slice x G.waits.length B,.slice y G.done.length C],true]) ?_ rfl kL
 simp[results,results10,go_sem,bN,gB]
structure abQ (h g:Mo.Hl) (o:Mo.Op) (p:Nat) (k n:Mo.Ch) (r:Mo.Rs):Prop where
 ck:h.chans[p]?=some k
 cn:g.chans[p]?=some n
 cr:g.done[o.th.toNat]?=some r
 nob:Mo.TY g.waits k.gen p
 keep:n.used=true->n.gen=k.gen->n.closed=true/\∃d,n.buf=k.buf.drop d
 shut:o.aQ.kind=4->o.aQ.arg=k.gen*8+p->r.code=9
 told:o.aQ.kind=3->r.code=9->∀y,o.aQ.cases[r.cs.toNat]?=some y->y.2.1=k.gen*8+p->y.1=1\/k.buf=[]
 gen:0<=k.gen/\k.gen<=4095
 len:k.buf.length<=90000
 cs:0<=r.cs
 wt:∀x∈g.waits,x.cases.length<=90000
 few:h.chans.length<=8/\g.chans.length<=8/\g.waits.length<=19/\g.done.length<=19/\o.aQ.cases.length<=3/\0<=o.th
theorem Iw(w:World){g:Hl}{o:Mo.Op}{k n:Ch}{r:Rs}(C:abQ h g o p k n r)(A1 A2 A3:Option Addr)(m1 m2 m3:Nat)(B1 B2 B3:Option Addr)(d1 d2 d3:Nat)(Hh:wu w h A1 A2 A3)(Hg:wu w g B1 B2 B3)(E:Option Addr)(J qd:Nat)(qf:J=o.aQ.cases.length)(hq:cN w bj E o.aQ.cases) :
 Calls prog 12 #[.agg (rZ h.ak A1 h.chans.length m1 A2 h.waits.length m2 A3 h.done.length m3),.agg (rZ g.ak B1 g.chans.length d1 B2 g.waits.length d2 B3 g.done.length d3),.agg #[o.th,o.seq,o.phase,o.aQ.kind,o.aQ.arg,o.aQ.value,o.aQ.dflt,.slice E J qd],p] w λe w'=>e=.returned true/\Below w w w':=by
 obtain⟨W,S⟩:=aw (((w.alloc (.cells (rZ h.ak A1 h.chans.length m1 A2 h.waits.length m2 A3 h.done.length m3) 45)).alloc (.cells (rZ g.ak B1 g.chans.length d1 B2 g.waits.length d2 B3 g.done.length d3) 45)).alloc (.cells #[o.th,o.seq,o.phase,o.aQ.kind,o.aQ.arg,o.aQ.value,o.aQ.dflt,.slice E J qd] 40))
 have K:Below w w W:=by rw[S];exact aj (aj (aj (ai w) _) _) _
 have eW:Hid (ag W w 45 #[h.ak,.slice A1 h.chans.length m1,.slice A2 h.waits.length m2,.slice A3 h.done.length m3]):=by rw[S];exact((ag.new _ _ _).alloc _).alloc _
 have X:Hid (ag W (w.heap.size+1) 45 #[g.ak,.slice B1 g.chans.length d1,.slice B2 g.waits.length d2,.slice B3 g.done.length d3]):=by rw[S];exact(ag.newAt _ _ _ aA).alloc _
 have ZO:Hid (ag W (w.heap.size+2) 40 #[o.th,o.seq,o.phase,o.aQ.kind,o.aQ.arg,o.aQ.value,o.aQ.dflt,.slice E J qd]):=by rw[S];exact ag.newAt _ _ _ aA
 obtain⟨tn,JH⟩:∃tn:Nat,o.th=tn:=⟨o.th.toNat,by have:=C.few.2.2.2.2.2;omega⟩
 obtain⟨a1,D1,e1,WY,Xi,a8,p0,p1,p2,p3,p4⟩:=(Hh.ext K).ch.row C.ck
 obtain⟨a2,D2,e2,cD,bE,bz,q0,q1,q2,q3,q4⟩:=(Hg.ext K).ch.row C.cn
 have t:=C.cr
 rw[JH,fR]at t
 obtain⟨a3,r',cF,b6,gB⟩:=cN.at_ dC (by decide) (Hg.ext K).dn (i:=tn) (bT t)
 cases b6.symm.trans t
 have r0:=gB 0 _ rfl
 have r1:=gB 1 _ rfl
 have r2:=gB 2 _ rfl
 have r3:=gB 3 _ rfl
 simp only[add_zero]at r0
 rw[add_lit _ _ (by decide)]at r1 r2 r3
 subst WY cD cF
 have Ca:=bT C.ck
 have dS:=bT C.cn
 have Mr:=bT t
 obtain⟨HW,bJ,q,b7,HQ,uF⟩:=cS S K C (Hg.ext K) (hq.below K) Xi
 obtain⟨br,bB,iY,b8⟩:=bh a8 bz bE qf
 clear S K gB b6 t Hh Hg hq a8 bz Xi bE qf C
 rw[JH]at ZO HW ⊢
 clear JH
 have c0:=λa (b:Ext W a) i=>ag.cell (eW.Y.ah b.Y) i
 have c1:=λa (b:Ext W a) i=>ag.cell (X.Y.ah b.Y) i
 have c2:=λa (b:Ext W a) i=>ag.cell (ZO.Y.ah b.Y) i
 have P0:=λa (b:Ext W a)=>b.cell p0
 have P1:=λa (b:Ext W a)=>b.cell p1
 have P2:=λa (b:Ext W a)=>b.cell p2
 have P3:=λa (b:Ext W a)=>b.cell p3
 have P4:=λa (b:Ext W a)=>b.cell p4
 have Q0:=λa (b:Ext W a)=>b.cell q0
 have Q1:=λa (b:Ext W a)=>b.cell q1
 have Q2:=λa (b:Ext W a)=>b.cell q2
 have Q3:=λa (b:Ext W a)=>b.cell q3
 have Q4:=λa (b:Ext W a)=>b.cell q4
 have R0:=λa (b:Ext W a)=>b.cell r0
 have R1:=λa (b:Ext W a)=>b.cell r1
 have R2:=λa (b:Ext W a)=>b.cell r2
 have R3:=λa (b:Ext W a)=>b.cell r3
 have g0:=eW.Y.lt
 have g1:=X.Y.lt
 have g2:=ZO.Y.lt
 have i0:(0:Int)<=(p:Int):=aa
 have i1:(p:Int)<h.chans.length:=aa
 have i2:(p:Int)<g.chans.length:=aa
 have i3:(0:Int)<=(tn:Int):=aa
 have i4:(tn:Int)<g.done.length:=aa
 clear p0 p1 p2 p3 p4 q0 q1 q2 q3 q4 r0 r1 r2 r3
 unfold rZ at *
 go_enter func12,ntmps12
 go_upto_region 1 with fail
 simp only[Nat.add_assoc,Nat.reduceAdd]
 rw[<-HW.Y]
 obtain⟨I,TH⟩:=aw k.buf.length
 obtain⟨U,R⟩:=aw n.buf.length
 rw[<-TH]at P4
 rw[<-R]at Q4
 have Y:=ae TH
 have Xj:=ae R
 clear TH R
 go_cut[9,10,11] (λs9 UA c4 a=>∃x9 O Q,s9=.pointer (some ⟨x9,0,none⟩)/\UA=.pointer (some ⟨O,0,none⟩)/\c4=.pointer (some ⟨Q,0,none⟩)/\ag a x9 50 #[.int .i64 k.gen,.int .i64 k.cap,.bool k.used,.bool k.closed,.slice D1 I e1]/\ag a O 50 #[.int .i64 n.gen,.int .i64 n.cap,.bool n.used,.bool n.closed,.slice D2 U e2]/\ag a Q 64 #[.int .i64 r.seq,.int .i64 r.cs,.int .i64 r.code,.int .i64 r.value]/\Ext W a)
 case first =>
  go_region_held3(Ext W) (with_reducible(repeat(first|assumption|exact Ext.start _|exact Ext.iD _ _|exact Ext.vo _ _ _|exact Ext.Hk _ _ _ _|refine Ext.alloc ?_ _|refine Ext.set ?_ (by simp;try omega)))) (fail);all_goals
   go_wp2;go_meet;refine⟨_,_,_,rfl,rfl,rfl,?_,?_,?_,?_⟩;all_goals(repeat(with_reducible first|assumption|exact ag.newAt _ _ _ aA|refine ag.dr ?_|refine ag.alloc ?_ _))
 case rest =>
  obtain⟨x9,O,Q,rfl,rfl,rfl,v,a6,a7,hX⟩:=hcut;have dw:=q.Y.gen;have U5:=q.Y.few.1;have w8:IntKind.i64.wrap (k.gen*8)=k.gen*8:=bH _ (by omega);have w9:IntKind.i64.wrap (k.gen*8+p)=k.gen*8+p:=bH _ (by omega);obtain⟨H9,J3,z,HX,HN⟩:=bQ v a6 a7 hX q.Y.nob;have aq:=λi=>c1 _ hX i;have cz:w.heap.size+1<wc.heap.size:=bW g1 hX.Y.size;obtain⟨TK,-,TJ⟩:=ag.aF v;clear c0 c1 c2 P0 P1 P2 P3 P4 Q0 Q1 Q2 Q3 Q4 R0 R1 R2 R3 i0 i1 i2 i3 i4 v a6 a7 hX;obtain⟨wl,Cu⟩:=aw g.waits.length;rw[<-Cu]at aq;have dz:wl<=19:=by rw[Cu];exact q.Y.few.2.2.1
  have ZK:=ae Cu;clear Cu;go_wp2_with fail;clear aq cz TK TJ;go_loopw[41] (λi wr=>∃j:Nat,j<=wl/\i=j/\Hid (Below wc wc wr)) (λi _=>wl-(intOf i).toNat);case atStart=>exact⟨0,aZ _,rfl,ai _⟩
  case round =>
   obtain⟨j,hj,rfl,F⟩:=hrel;by_cases cR:j<wl
   .obtain⟨x,b⟩:∃x,g.waits[j]?=some x:=⟨_,cq (by rw[<-ZK.Y];exact cR)⟩
    obtain⟨ad,B,d,s,_,hb,z0,z1,z2,z3⟩:=(b7.Y.ext (ah HX.Y.Y F.Y)).wt.row b;subst s;obtain⟨w3,u⟩:=aw (wr.alloc (.cells #[x.on,x.ak,x.seq,.slice B x.cases.length d] 99));have bU:Hid (Below wr wr w3):=by rw[u];exact aj (ai _) _
    have K3:Hid (ag w3 wr 99 #[x.on,x.ak,x.seq,.slice B x.cases.length d]):=by rw[u];exact ag.new _ _ _
    obtain⟨xl,yO⟩:=aw x.cases.length;have dT:xl<=90000:=by rw[yO];exact q.Y.wt x (bo b)
    rw[<-yO]at u z3 K3;obtain⟨cy,cw,cv,oL⟩:=bh (HN.Y x (bo b)) yO (hb.below bU.Y) u;clear b yO hb u;go_upto_region 6 with fail
    rw[<-oL.Y];obtain⟨cG,-,cO⟩:=ag.aF K3.Y;clear z0 z1 z2 z3;go_wp2_with fail;clear cG cO;obtain⟨w5,CZ⟩:=aw wr;go_loopw[48] (λi a=>∃e:Nat,e<=xl/\i=e/\Hid (Below w3 w3 a)) (λi _=>xl-(intOf i).toNat);case atStart=>exact⟨0,aZ _,rfl,ai _⟩
    case round =>
     obtain⟨e,he,rfl,iq⟩:=hrel;by_cases M:e<xl
     .obtain⟨ad,y,s,hy,hcell⟩:=cN.at_ cM af (cv.Y.below iq.Y) (i:=e) (by rw[<-cw.Y];exact M);have z0:=hcell 0 _ rfl;have z1:=hcell 1 _ rfl;have z2:=hcell 2 _ rfl;simp only[add_zero]at z0;rw[add_lit _ _ af]at z1 z2;subst s;have dy:(y.2.1==k.gen*8+p)=false:=by
       rw[dp];exact cy.Y y (bo hy)
      clear hcell hy;go_wp2;go_roundw;case rel=>exact⟨e+1,by omega,by go_num,aj iq.Y _⟩
      case measure=>simp[intOf];omega
     .go_wp2;go_roundw;case rel=>exact⟨j+1,by omega,by go_num,ah F.Y (ah bU.Y iq.Y)⟩
      case measure=>simp[intOf];omega
   .obtain⟨Z,l,c,D,HOr⟩:=bQ (ah HX.Y.Y F.Y) (H9.Y.ah F.Y) (J3.Y.ah F.Y) (z.Y.ah F.Y) (ZO.Y.ah (ah HX.Y.Y F.Y));clear H9 J3 z HX F HN;have C9:=λa (b:Ext wr a) i=>ag.cell (l.Y.ah b.Y) i;have CA:=λa (b:Ext wr a) i=>ag.cell (c.Y.ah b.Y) i;have G9:=l.Y.lt;have GA:=c.Y.lt;go_upto_region 13 with fail
    go_cut[96] (λdf a=>df=.bool false/\Ext wr a);case first =>
     rcases f:n.used with _|_
     .have s:=λi=>ag.cell c.Y i;rw[f]at s;clear f CA C9;go_quiet(fail);go_wp2;go_meet;exact⟨rfl,bZ (ai _) _⟩
     .by_cases xp:n.gen=k.gen
      .have s:=λi=>ag.cell c.Y i;have v:=λi=>ag.cell l.Y i;rw[f]at s;obtain⟨kR,d,H⟩:=q.Y.keep f xp;have dg:(n.gen==k.gen)=true:=by simpa using xp
       rw[kR]at s;have TH:=Y.Y;have R:=Xj.Y;have fF:=congrArg List.length H;rw[iu]at fF;have M:U<=I:=by omega
       have dl:decide (I<U)=false:=bF (by omega);obtain⟨m,hm⟩:=aw (I-U);have b5:I-m=U:=by omega
       have dJ:IntKind.i64.wrap ((I:Int)-U)=(m:Int):=by have:=q.Y.len;rw[bH _ (by omega)];omega
       have ud:k.buf.drop m=n.buf:=by
        rw[H];by_cases dP:d<=k.buf.length
        .congr 1;omega
        .rw[List.drop_of_length_le (by omega),List.drop_of_length_le (by omega)]
       have Jp:=λw'=>ib (P:=prog) 22 3 underlying22 dI D1 I e1 m m rfl (by omega) w';rw[b5]at Jp;have TF:=ae (λa (b:Ext wr a)=>OD D2 (kS D1 e1 m 1) e2 (e1-m) n.buf n.buf a (by have:=q.Y.len;omega) (by have:=q.Y.len;omega) (bB.Y.below (ah Z.Y b.Y)) (by rw[oK, <-ud];exact bD.from (br.Y.below (ah Z.Y b.Y)) uF.Y m));rw[<-R,beq_self_eq_true]at TF;clear f xp kR H TH R fF M hm b5 ud;clear CA C9;go_quiet((go_at_call 35;exact iP.quiet (TF.Y _ (bZ (ai wr) _))));go_wp2;go_meet;exact⟨rfl,bZ (ai _) _⟩
      .have dg:(n.gen==k.gen)=false:=by simpa using xp
       have s:=λi=>ag.cell c.Y i;have v:=λi=>ag.cell l.Y i;rw[f]at s;clear f xp CA C9;go_quiet(fail);go_wp2;go_meet;exact⟨rfl,bZ (ai _) _⟩
    case rest =>
     obtain⟨rfl,V⟩:=hcut;obtain⟨H9,z,HO,ZP⟩:=bh (l.Y.ah V.Y) (D.Y.ah V.Y) (HOr.Y.ah V.Y) (ah bJ.Y (ah Z.Y V.Y));have ct:=ae (HQ.Y.below (ah Z.Y V.Y));clear C9 CA G9 GA V Z l c D HOr;obtain⟨G,L⟩:∃G:Nat,r.cs=G:=⟨r.cs.toNat,by have:=q.Y.cs;omega⟩
     obtain⟨TK,-,TJ⟩:=ag.aF H9.Y;obtain⟨Aa,-,dm⟩:=ag.aF z.Y;obtain⟨De,-,dQ⟩:=ag.aF HO.Y;rw[L]at Aa;obtain⟨N,A⟩:=av q.Y.shut q.Y.told;rw[L,fR]at A;have dM:=q.Y.few.2.2.2.2.1;clear L;by_cases T:o.aQ.kind=4
     .have d4:(o.aQ.kind==4)=true:=by simpa using T
      have d3:(o.aQ.kind==3)=false:=by simp[T]
      by_cases ka:o.aQ.arg=k.gen*8+p;case' pos =>
       have da:(o.aQ.arg==k.gen*8+p)=true:=by simpa using ka
       have dc:(r.code !=9)=false:=by simpa using N.Y T ka
      case' neg=>have da:(o.aQ.arg==k.gen*8+p)=false:=by simpa using ka
      all_goals
       clear ka T N A;go_wp2_with fail;go_ret;exact⟨rfl,ZP.Y⟩
     .have d4:(o.aQ.kind==4)=false:=by simpa using T
      by_cases k3:o.aQ.kind=3;case' neg=>have d3:(o.aQ.kind==3)=false:=by simpa using k3
      case' pos =>
       have d3:(o.aQ.kind==3)=true:=by simpa using k3
       by_cases hl:G<J;case' neg=>have dl:decide (G<J)=false:=bF hl
       case' pos =>
        have dl:decide (G<J)=true:=cg hl;have i0:(0:Int)<=G:=aa;have i1:(G:Int)<J:=aa;obtain⟨ad,y,s,hy,hcell⟩:=cN.at_ cM af ct.Y (i:=G) (by rw[<-b8.Y];exact hl);have z0:=hcell 0 _ rfl;have z1:=hcell 1 _ rfl;have z2:=hcell 2 _ rfl;simp only[add_zero]at z0;rw[add_lit _ _ af]at z1 z2;subst s;by_cases hh:y.2.1=k.gen*8+p;case' neg=>have dh:(y.2.1==k.gen*8+p)=false:=by simpa using hh
        case' pos =>
         have dh:(y.2.1==k.gen*8+p)=true:=by simpa using hh
         by_cases v:r.code=9;case' neg=>have dc:(r.code==9)=false:=by simpa using v
         case' pos =>
          have dc:(r.code==9)=true:=by simpa using v
          by_cases H:y.1=1;case' pos=>have dd:(y.1==1)=true:=by simpa using H
          case' neg =>
           have dd:(y.1==1)=false:=by simpa using H
           have dk:((I:Int)==0)=true:=by have:=(A.Y k3 v y hy hh).resolve_left H;have e:=Y.Y;rw[this]at e;rw[e];rfl
          all_goals clear H
         all_goals clear v
        all_goals clear hh hcell hy
       all_goals clear hl
      all_goals
       clear k3 T N A;go_wp2_with fail;go_ret;exact⟨rfl,ZP.Y⟩
section
variable{X:Nat->Prop}{m:Mm}{q:Nat}{o:Sl}{N:Int}
def wL(w:World)(y:Rs)(l:Value)(f:World):Prop:=∃g,l=.pointer (some ⟨g,0,none⟩)/\ag f g 64 #[y.seq,y.cs,y.code,y.value]/\w<=g/\Below w w f
theorem wL.last(f:Below w w w1)(y:Rs):wL w y (.pointer w1) (w1.alloc (qh y.seq y.cs y.code y.value)):=⟨_,rfl,ag.new _ _ _,f.size,aj f _⟩
theorem wL.mid{f l u z:Value}(C:ag w1 w 64 #[f,l,u,z])(B:Below w w w1)(y:Rs):wL w y (.pointer w) (ax w1 w 0 [y.seq,y.cs,y.code,y.value]):=⟨_,rfl,aY C rfl,aR _,az (aR _) _ _ _ B⟩
theorem Br{x:Int}(f:0<=x)(l:x<=4611686018427387904):IntKind.u64.wrap x=x:=by simp only[cA];omega
theorem QS(H:RN w X p c A n k t m q r s o)(F:RB c N r)(hN:N<=100000)(R:q<=900000)(E:r.k.pc=6):Calls prog 104 #[.pointer p] w (cW X p c A n k t m (q+1) (Rn.fY c t r) w):=by
 have K:=F.k.round;have M:=F.k.base;unfold vP at M;have I:Rn.fY c t r=if aG r.L (bV c r.k.base.ix)≠r.k.base.tag then Rn.fail c r else{r with k:={r.k with i:=0,buf:=[],pc:=7}}:=by unfold Rn.fY;rw[ay E]
 rw[I];have O:0<=bV c r.k.base.ix:=by have h1:=lL H.cs.ee (i:=r.k.base.ix) aa aa;have h2:=(Mo.aO H.cs.ee).1.1;unfold bV;omega
 obtain⟨L,D⟩:=av (λy (h:RN y X p c A n k t m q r s o)=>jX h r.k.base.ix r.k.base.tag aa aa) (λy (h:RN y X p c A n k t m q r s o)=>di h R _ O);obtain⟨x,J⟩:∃x,x=aG r.L (bV c r.k.base.ix):=⟨_,rfl⟩
 rw[<-J]at D ⊢;have S:IntKind.u64.wrap r.k.base.tag=r.k.base.tag:=Br aa aa;have HH:=ae H;obtain⟨gq,ij,G,l,C⟩:=H.cT;have B:=HH.cx;unfold bI at B;have g:=λi=>ag.cell HH.blk i;unfold bI at g;rw[E]at g;have P:=ae (λy W (h:RN y X p c A n k t W (q+1) r s o)=>vy h K.1 aa);clear I E H J O M K;by_cases j:x=r.k.base.tag
 .have pA:(x !=r.k.base.tag)=false:=by rw[j];exact bne_self_eq_false _
  rw[au (λh=>h j)];clear j;go_enter func104,ntmps104;go_wp2_with fail;clear g;go_region_held3(RX w p m 0 0) (exact gw) (first
   |((with_reducible go_fit (L.Y _ aN));rintro e wA ⟨rfl,b⟩;have V:=RX.below aN b;have Y:=G.Y _ _ aN b;have Z:=l.Y _ _ aN b)
   |((with_reducible go_fit (D.Y _ aN));rintro e wC ⟨rfl,U,d,a⟩;have T:=RX.acc aN HH.Y.blk a (d.kept a rfl);have u:=cP.trans aN a))
  all_goals
   obtain⟨f,z⟩:=av d u;clear d a u B C;obtain⟨g,bC,C⟩:=ag.aF f.blk;unfold bI at g;go_wp2;refine bodyPost_ret (v:=.tuple #[]) (by simp[results,results104,go_sem]) rfl ?_;refine cW.then z ?_;exact cW.leaf f {s with bf:=eE} o {f.tk with bf:=dL.nil _ _ _ _,lb:=aZ _} f.op rfl
 .have pA:(x !=r.k.base.tag)=true:=by rw[bne_iff_ne];exact j
  rw[ay j];clear j;go_enter func104,ntmps104;go_wp2_with fail;clear g;go_region_held3(RX w p m 0 0) (exact gw) (first
   |((with_reducible go_fit (L.Y _ aN));rintro e wA ⟨rfl,b⟩;have V:=RX.below aN b;have Y:=G.Y _ _ aN b;have Z:=l.Y _ _ aN b)
   |((with_reducible go_fit (D.Y _ aN));rintro e wC ⟨rfl,U,d,a⟩;have T:=RX.acc aN HH.Y.blk a (d.kept a rfl);have u:=cP.trans aN a))
  all_goals
   obtain⟨f,z⟩:=av d u;clear d a u B C;go_wp2_with fail;go_fit (P _ _ f);rintro e w3 ⟨rfl,(Q:Hid _)⟩;go_wp2;refine bodyPost_ret (v:=.tuple #[]) (by simp[results,results104,go_sem]) rfl ?_;exact cW.then z ⟨rfl,Q⟩
theorem QT(H:RN w X p c A n k t m q r s o)(U:RB c N r)(hN:N<=100000)(hq:q<=900000)(cB:r.k.pc=7):Calls prog 104 #[.pointer p] w (cW X p c A n k t m (q+1) (Rn.fY c t r) w):=by
 have pD:=U.k.base;unfold vP at pD;have hi:=U.k.i;have ct:=size_le H.cs.ee;have uv:r.k.i<bA c/\(r.k.buf.length:Int)=r.k.i:=by have:=U.f.a;unfold nh at this;exact this.2.1 cB
 have wM:0<=bV c r.k.base.ix/\bV c r.k.base.ix<=100000000:=by have h1:=lL H.cs.ee (i:=r.k.base.ix) aa aa;have h2:=(Mo.aO H.cs.ee).1;unfold bV;omega
 have nV:=ae (λl (h:RN l X p c A n k t m q r s o)=>jX h r.k.base.ix r.k.base.tag aa aa);obtain⟨a,ha⟩:∃a,a=bV c r.k.base.ix:=⟨_,rfl⟩
 rw[<-ha]at wM nV;have lF:=ae (λl (h:RN l X p c A n k t m q r s o)=>di h hq (a+1+r.k.i) aa);obtain⟨x,R⟩:∃x,x=aG r.L (a+1+r.k.i):=⟨_,rfl⟩
 rw[<-R]at lF;have e1:IntKind.i64.wrap (a+1)=a+1:=kD aa aa;have e2:IntKind.i64.wrap (a+1+r.k.i)=a+1+r.k.i:=kD aa aa;have iF:=ae (λl=>yU l s.bf.A r.k.buf.length s.bf.c H.tk.lb (λe=>by have h:=H.tk.bf.1;rw[e]at h;rw[h.po];rfl));have a7:r.k.buf.length<=100000:=aa;obtain⟨U6,HH⟩:=av a7 H;obtain⟨gq,ij,dA,b6,I⟩:=H.cT;have C:=λi=>ag.cell HH.blk i;unfold bI at C;rw[cB]at C;obtain⟨HA,HX,CD,W,HI,lR⟩:=cS ha R cB uv hi U;clear cB H R wM pD ha uv hi ct U a7;go_enter func104,ntmps104;go_wp2_with fail;have b8:w.drew.cell? ⟨p,16,none⟩=some (.slice s.bf.A r.k.buf.length s.bf.c):=C 16;clear C;obtain⟨G,q8,kf,iM⟩:=HH.FH 16 17;unfold bI at G;refine wp_region_held_drew (S:=(RX w p m 16 17)) gG (RX.start HH.blk _ _ _) (λhHeld=>?_);refine aU 0 aN ?_;refine aU 1 aN ?_;refine aU 2 aN ?_;refine aU 3 aN ?_;refine aU 4 aN ?_;refine aU 7 aN ?_;refine aU 8 aN ?_;refine aU 9 aN ?_;refine aU 10 aN ?_;refine aU 11 aN ?_;refine aU 12 aN ?_;refine aU 13 aN ?_;refine aU 16 aN ?_;refine aU 17 aN ?_;refine aU 18 aN ?_;refine aU 19 aN ?_;refine aU 20 aN ?_;refine eQ 5 (λK j=>?_);go_simp;refine j.Y _ _ gw (λhHeld=>?_);clear j K;refine eQ 6 (λK j=>?_);go_simp;((with_reducible go_fit (iF.Y _));rintro e wA ⟨rfl,rfl⟩);go_wp2_with fail;refine j.Y _ _ gw (λhHeld=>?_);clear j K;refine eQ 14 (λK j=>?_);go_simp;((with_reducible go_fit (nV.Y _ aN));rintro e wB ⟨rfl,eG⟩;have nE:=RX.below aN eG;have zK:=dA.Y _ _ aN eG;have wG:=b6.Y _ _ aN eG);go_wp2_with fail;refine j.Y _ _ gw (λhHeld=>?_);clear j K;refine aU 15 aN ?_;refine aU 21 aN ?_;refine eQ 22 (λK j=>?_);go_simp;((with_reducible go_fit (lF.Y _ aN));rintro e wC ⟨rfl,mC,hC,fC⟩;have jR:=RX.acc aN HH.Y.blk fC (hC.kept fC rfl);have eJ:=cP.trans aN fC);go_wp2_with fail;refine j.Y _ _ gw (λhHeld=>?_);clear j K;refine eQ 23 (λK j=>?_);go_simp;refine j.Y _ _ gw (λhHeld=>?_);clear j K;refine eQ 24 (λK j=>?_);(refine sT rfl _ _ 30 rfl 69 .u64 underlying30 rQ s.bf.A r.k.buf.length r.k.buf rfl rfl ?_ ⟨wC,0,none⟩ 1 x rfl ?_ ?_ ?_;(exact hC.tk.bf.1.alloc _);(exact bD.one _ .u64 _ _);(exact bm U6 af);intro u B T L dJ;have Hw:=RX.below aN dJ);refine j.Y _ _ gw (λhHeld=>?_);clear j K;refine aU 25 aN ?_;refine aU 26 aN ?_;refine aU 27 aN ?_;refine eQ 28 (λK j=>?_);go_simp;refine j.Y _ _ gw (λhHeld=>?_);clear j K;refine nT ?_;obtain⟨iA,oc⟩:=av (hC.more (ah (aj (ai _) _) dJ)) (eJ.trans (cP.ext (ah (aj (ai _) _) dJ) p mC));have nQ:∀b,(wC.alloc (.cells #[.int .u64 x] 69)).heap.size<=b->b<T->Im T X p mC b:=λb h0 h1=>Im.fresh hC (by simp at h0;omega) h1;obtain⟨f,E⟩:∃f,f=r.k.buf++[x]:=⟨_,rfl⟩
 have a6:r.k.buf.length+1=f.length:=by rw[E];simp
 have aq:(f.length:Int)=r.k.i+1:=by have:=W.2;omega
 have a8:fV f:=by rw[E];exact lR.k.buf.app (fV.one (by rw[HX.Y];exact lR.L.at_ _))
 rw[<-E]at L;rw[a6]at L ⊢;have H7:RN (T.setCell ⟨p,16,none⟩ (.slice u f.length B)) X p c A n k t mC (q+1) {r with k:={r.k with buf:=f}} {s with bf:=⟨u,B⟩} o:=RN.leaf iA {s with bf:=⟨u,B⟩} o {iA.tk with bf:=⟨L.pw.2,λad ha _=>by subst ha;exact nQ _ (bk L rfl).1 (bk L rfl).2⟩,lb:=L.cap.2} iA.op rfl;have F7:cP T (T.setCell ⟨p,16,none⟩ (.slice u f.length B)) p mC mC:=((gv.refl _ _).set _ _).fr _;obtain⟨z,vE,bE,b5,br⟩:=bQ H7 (oc.trans F7) aq a8 E;clear H7 F7 nQ L dJ Hw nE zK wG eG hC fC jR eJ hHeld E a6 aq a8 iA oc G q8 kf iM b8;generalize T.setCell ⟨p,16,none⟩ (.slice u f.length B)=w7 at *;have kK:=HI.Y;have DC:=ae (size_le z.cs.ee);obtain⟨C,bC,I⟩:=ag.aF z.blk;unfold bI at C;go_wp2_with fail;have H8:RN (w7.setCell ⟨p,9,none⟩ (.int .i64 (r.k.i+1))) X p c A n k t mC (q+1) {r with k:={r.k with buf:=f,i:=r.k.i+1}} {s with bf:=⟨u,B⟩} o:=RN.leaf z {s with bf:=⟨u,B⟩} o {z.tk with} z.op rfl;obtain⟨ZM,Z⟩:=av (vE.trans (((gv.refl w7 p).set 9 (.int .i64 (r.k.i+1))).fr mC)) H8;clear H8 C bC I z vE;generalize w7.setCell ⟨p,9,none⟩ (.int .i64 (r.k.i+1))=w8 at *;have I:=Z.lt;have gq:=Z.more (ai w8).drew;have ij:=ZM.trans (cP.ext (ai w8).drew p mC);obtain⟨Er,Y,V⟩:=aS (λl (h:RN l X p c A n k t mC (q+1) {r with k:={r.k with buf:=f,i:=r.k.i+1}} {s with bf:=⟨u,B⟩} o)=>Bl h) (λl wy (h:RN l X p c A n k t mC (q+1) {r with k:={r.k with buf:=f,i:=r.k.i+1}} {s with bf:=⟨u,B⟩} o) (M:Below l l wy)=>h.more M) (λl wy (h:cP w l p m mC) (M:Below l l wy)=>h.trans (cP.ext M p mC));have G:=Z.cx;unfold bI at G;go_region_held3(RX w8 p mC 0 0) (with_reducible(repeat(first|assumption|exact RX.start Z.Y.blk _ _ _|refine RX.alloc ?_ _))) (
  ((with_reducible go_fit (Er.Y _ aN));rintro e w9 ⟨rfl,zz⟩;have U4:=RX.below aN zz;have QU:=Y.Y _ _ aN zz;have QV:=V.Y _ _ aN zz))
 obtain⟨Q,UD⟩:=av QU QV;clear zz QU QV U4 gq ij G I Z ZM;obtain⟨C,bC,I⟩:=ag.aF Q.blk;unfold bI at C;have J:Hid (Rn.fY c t r=if r.k.i+1<bA c then{r with k:={r.k with buf:=f,i:=r.k.i+1}}else(if r.k.p5=true/\(iT c f t).seq=r.k.seq then{r with k:={r.k with buf:=f,i:=0,found:=[],pc:=20,res:=iT c f t}}else{r with k:={r.k with buf:=f,i:=0,found:=[],pc:=8}})):=by unfold Hid Rn.fY;rw[au (by rw[CD.Y];decide)];dsimp only;rw[<-HA.Y, <-HX.Y, <-br.Y]
 by_cases bz:r.k.i+1<bA c
 .have O:Hid (Rn.fY c t r={r with k:={r.k with buf:=f,i:=r.k.i+1}}):=by unfold Hid;rw[J.Y,ay bz]
  go_wp2;refine bodyPost_ret (v:=.tuple #[]) (by simp[results,results104,go_sem]) rfl ?_;rw[O.Y];exact⟨rfl,_,_,_,Q,UD⟩
 .have O:Hid (Rn.fY c t r=if r.k.p5=true/\(iT c f t).seq=r.k.seq then{r with k:={r.k with buf:=f,i:=0,found:=[],pc:=20,res:=iT c f t}}else{r with k:={r.k with buf:=f,i:=0,found:=[],pc:=8}}):=by unfold Hid;rw[J.Y,au bz]
  have fW:Hid ((f.length:Int)=bA c):=by unfold Hid;have:=bE.Y;have:=W.1;omega
  clear J;go_wp2_with fail;have J3:RN (((w9.setCell ⟨p,9,none⟩ oZ).setCell ⟨p,20,none⟩ oN).setCell ⟨p,0,none⟩ (.int .i64 8)) X p c A n k t mC (q+1) {r with k:={r.k with buf:=f,i:=0,found:=[],pc:=8}} {s with bf:=⟨u,B⟩,fo:=eE} o:=RN.leaf Q {s with bf:=⟨u,B⟩,fo:=eE} o {Q.tk with fo:=rN.nil _ _ _,lf:=aZ _} Q.op rfl;obtain⟨d,F⟩:=av J3 (UD.trans (((((gv.refl w9 p).set 9 oZ).set 20 oN).set 0 (.int .i64 8)).fr mC));clear J3 Q UD C bC I;generalize(((w9.setCell ⟨p,9,none⟩ oZ).setCell ⟨p,20,none⟩ oN).setCell ⟨p,0,none⟩ (.int .i64 8))=D at *;have I:=d.lt;have CV:=ae (λl (R:Below D D l)=>vz (d.more R) f u f.length B rfl fW b5 (d.more R).tk.bf.1 t d.cs.t0 d.cs.t1);obtain⟨y,hy⟩:∃y,y=iT c f t:=⟨_,rfl⟩
  rw[<-hy]at CV O;clear hy;have G:=d.cx;unfold bI at G;go_cut[2] (λs2 l=>wL D y s2 l);case first =>
   go_region_held3(RX D p mC 0 0) (with_reducible(repeat(first|assumption|exact RX.start d.Y.blk _ _ _|exact RX.iD d.Y.blk _ _ _ _|refine RX.alloc ?_ _|refine RX.b9 ?_ (aR _) _ _))) ((refine(CV.Y _ (by first|exact(ai D).drew|exact(aj (ai D) _).drew)).mono ?_;rintro e yM ⟨rfl,MQ⟩;have cv:=RX.below aN MQ;have oY:=ah (by first|exact(ai D).drew|exact(aj (ai D) _).drew:Below D D _) MQ;(try(have pF:=(ag.dr (ag.new D _ _)).ah MQ;have cw:=λi=>ag.cell pF i;have cy:=λi=>ag.free pF i;have cz:=pF.lt))));all_goals
    go_wp2;go_meet;first
     |with_reducible exact wL.last oY y
     |(change wL _ _ _ (ax yM D 0 [y.seq,y.cs,y.code,y.value]);with_reducible exact wL.mid pF oY y)
  case rest =>
   obtain⟨g,rfl,(HG:Hid _),hg,M⟩:=hcut;obtain⟨HR,HF⟩:=av (d.more M) (F.trans (cP.ext M p mC));have cF:p<g:=aa;obtain⟨cI,-,eH⟩:=ag.aF HG;have cD:=HR.lt;obtain⟨C,bC,-⟩:=ag.aF HR.blk;unfold bI at C;clear G I hg M CV d F;rcases hs:r.k.p5 with _|_
   .have iY:Hid (Rn.fY c t r={r with k:={r.k with buf:=f,i:=0,found:=[],pc:=8}}):=by unfold Hid;rw[O.Y,au (λh=>by rw[hs]at h;cases h.1)]
    exact Xk
   .by_cases P:y.seq=r.k.seq
    .have iY:Hid (Rn.fY c t r={r with k:={r.k with buf:=f,i:=0,found:=[],pc:=20,res:=y}}):=by unfold Hid;rw[O.Y,ay ⟨hs,P⟩]
     have b7:(y.seq==r.k.seq)=true:=by rw[P];exact beq_self_eq_true _
     clear P;go_wp2_with fail;go_quiet(fail);go_wp2;go_end0;rw[iY.Y];refine cW.then HF ?_;exact cW.leaf HR {s with bf:=⟨u,B⟩,fo:=eE} o {HR.tk with} HR.op rfl
    .have iY:Hid (Rn.fY c t r={r with k:={r.k with buf:=f,i:=0,found:=[],pc:=8}}):=by unfold Hid;rw[O.Y,au (λh=>P h.2)]
     have b7:(y.seq==r.k.seq)=false:=by rw[dp];exact P
     clear P;exact Xk
theorem EV(H:RN w X p c A n k t m q r s o)(f:RB c N r)(l:N<=100000)(u:q<=900000)(y:6<=r.k.pc)(z:r.k.pc<=7):Calls prog 104 #[.pointer p] w (cW X p c A n k t m (q+1) (Rn.fY c t r) w):=by
 rcases(by omega:r.k.pc=6\/r.k.pc=7)with h|h
 .exact QS H f l u h
 .exact QT H f l u h
theorem Ix(H:RN w X p c A n k t m q r s o)(T:q<=900000):Calls prog 111 #[.pointer p] w (cW X p c A n k t m (q+1) (Rn.leave c t r) w):=by
 have I:=(dZ H.cs.ee H.cs.t0 H.cs.t1).2.2.1;obtain⟨L,y,HH⟩:=aS (λC=>tV C H.cs.ee A k n t H.cs.t0 (by have:=H.cs.t1;have:=H.cs.th;omega)) (λC (h:RN C X p c A n k t m q r s o)=>fz h T (qp c t) 0 I.1 I.2) H;obtain⟨gq,ij,M,x,u⟩:=H.cT;have F:=HH.Y.cx;unfold bI at F;obtain⟨a,g,-⟩:=ag.aF HH.Y.blk;unfold bI at a;clear H I;by_cases l:r.k.res.code=14
 .have B:Rn.leave c t r={r.store (qp c t) 0 with note:=2,k:=(jc 29 r.k.seq r.k.aQ r.k.aJ r.k.res true)}:=by unfold Rn.leave;dsimp only;rw[au (λh=>h l)]
  rw[B];have G:(r.k.res.code !=14)=false:=by rw[l];rfl
  clear B l;go_enter func111,ntmps111;go_wp2_with fail;clear a g;go_region_held3(RX w p m 0 0) (exact gw) (first
   |((with_reducible go_fit (L.Y _));rintro e wA ⟨rfl,i⟩;have U:=RX.below (by assumption) i;(try have W:=M.Y _ _ (by assumption) i);(try have Y:=x.Y _ _ (by assumption) i))
   |((with_reducible go_fit (y.Y _ (by assumption)));rintro e D ⟨rfl,J,j,d⟩;have S:=RX.acc (by assumption) HH.Y.blk d (j.kept d rfl);have z:=cP.trans (by assumption) d))
  all_goals
   obtain⟨f,E⟩:=av j z;clear j d z F u;obtain⟨a,g,u⟩:=ag.aF f.Y.blk;unfold bI Rn.store at a;dsimp only at a;go_wp2_with fail;clear a g u;have N:RN (D.setCell ⟨p,47,none⟩ (.int .i64 2)) X p c A n k t J (q+1) {r.store (qp c t) 0 with note:=2} s o:=RN.leaf f.Y s o {f.Y.tk with} f.Y.op rfl;obtain⟨b,Z⟩:=av N (((gv.refl D p).set 47 (.int .i64 2)).fr J);clear N;generalize(D.setCell ⟨p,47,none⟩ (.int .i64 2))=O at *;obtain⟨a,g,-⟩:=ag.aF b.Y.blk;unfold bI Rn.store at a;dsimp only at a;have u:=b.Y.lt;go_still_tail 24,(by kernel_rfl)
   change wpList _ _ _ _ _ O.drew;refine wpList_store_mid rfl 75 _ _ rfl p 0 (jA (jc 29 r.k.seq r.k.aQ r.k.aJ r.k.res true) {cs:=s.cs,bf:=eE,nx:=eE,ar:=eE,fo:=eE,se:=eE,fr:=s.fr,ol:=s.ol}).toArray rfl rfl (ag.there (ag.jd b.Y.blk) 0 34 (by show 34<=50;decide)) (by kernel_rfl) (gR _ _) ?_;rw[jQ];clear a g;generalize K:ax O.drew p 0 (jA (jc 29 r.k.seq r.k.aQ r.k.aJ r.k.res true) {cs:=s.cs,bf:=eE,nx:=eE,ar:=eE,fo:=eE,se:=eE,fr:=s.fr,ol:=s.ol}).toArray.toList=w5;have Q:=ae K;clear K;go_wp2;go_end0;rw[<-Q.Y];refine cW.then (E.Y.trans Z.Y) ?_;apply cW.at_ (s':={cs:=s.cs,bf:=eE,nx:=eE,ar:=eE,fo:=eE,se:=eE,fr:=s.fr,ol:=s.ol}) (o':=o) b.Y;case hA=>exact(gv.refl _ _).drew.ax _ _
   case hK=>exact ag.whole (ag.jd b.Y.blk) _ _
   case he=>rfl
   case hL=>rfl
   case tk=>exact⟨b.Y.tk.cs,dL.nil _ _ _ _,dL.nil _ _ _ _,dL.nil _ _ _ _,rN.nil _ _ _,dL.nil _ _ _ _,b.Y.tk.fr,b.Y.tk.ol,aZ _,aZ _,aZ _,aZ _,b.Y.tk.lr,b.Y.tk.lo⟩
   case op=>exact b.Y.op
 .have B:Rn.leave c t r=(r.store (qp c t) 0).finish:=by unfold Rn.leave;dsimp only;rw[ay l]
  rw[B];have G:(r.k.res.code !=14)=true:=by rw[bne_iff_ne];exact l
  have R:=ae (λC V (h:RN C X p c A n k t V (q+1) (r.store (qp c t) 0) s o)=>ra h);clear B l;go_enter func111,ntmps111;go_wp2_with fail;clear a g;go_region_held3(RX w p m 0 0) (exact gw) (first
   |((with_reducible go_fit (L.Y _));rintro e wA ⟨rfl,i⟩;have U:=RX.below (by assumption) i;(try have W:=M.Y _ _ (by assumption) i);(try have Y:=x.Y _ _ (by assumption) i))
   |((with_reducible go_fit (y.Y _ (by assumption)));rintro e D ⟨rfl,J,j,d⟩;have S:=RX.acc (by assumption) HH.Y.blk d (j.kept d rfl);have z:=cP.trans (by assumption) d))
  all_goals
   obtain⟨f,E⟩:=av j z;clear j d z F u;obtain⟨a,g,u⟩:=ag.aF f.Y.blk;unfold bI Rn.store at a;dsimp only at a;go_wp2_with fail;go_fit (R.Y _ _ f.Y);rintro e w3 ⟨rfl,(P:Hid _)⟩;go_wp2;refine bodyPost_ret (v:=.tuple #[]) (by simp[results,results111,go_sem]) rfl ?_;exact cW.then E.Y ⟨rfl,P.Y⟩
theorem U7(f:aV c=true):c.threads<=bA c:=by
 have a:=Mo.aO f;have d:0<=eC c:=by
  unfold eC;have e:=a.2.2.2.2.2.2.1;have b:=a.2.2.2.2.2.2.2.1;have g:0<=c.chans*(1+c.cap):=lI b aa;split
  .omega
  .split<;>omega
 unfold bA;rw[au (by rw[f];decide)];omega
theorem QW(H:RN w X p c A n k t m q r s o)(i:q<=900000)(f:r.k.pc=37):Calls prog 169 #[.pointer p] w (cW X p c A n k t m (q+1) (Rn.waits c t r) w):=by
 have a:=(dZ H.cs.ee H.cs.t0 H.cs.t1).2.1;obtain⟨HA,HST⟩:=av (λb=>qI b H.cs.ee A k n t H.cs.t0 (by have:=H.cs.t1;have:=H.cs.th;omega)) (λb (h:RN b X p c A n k t m q r s o)=>fz h i (jZ c t) 0 a.1 a.2);have d:Rn.waits c t r=(r.store (jZ c t) 0).pc 38:=by unfold Rn.waits;rw[au aa,au aa,au aa,au aa,au aa,au aa,au aa,au aa,ay f]
 rw[d];have HH:=ae H;obtain⟨e,g,dA,HFm,bb⟩:=H.cT;have aT:=HH.cx;unfold bI at aT;obtain⟨aC,bC,-⟩:=ag.aF HH.blk;unfold bI at aC;rw[f]at aC;clear H a d f;go_enter func169,ntmps169;exact abR
theorem QX(H:RN w X p c A n k t m q r s o)(U:RB c N r)(Z:q<=900000)(O:r.k.pc=38):Calls prog 169 #[.pointer p] w (cW X p c A n k t m (q+1) (Rn.waits c t r) w):=by
 have Q:=(dZ H.cs.ee H.cs.t0 H.cs.t1).2.2.1;have K:=U.k.word;obtain⟨T,W⟩:=av (λI=>tV I H.cs.ee A k n t H.cs.t0 (by have:=H.cs.t1;have:=H.cs.th;omega)) (λI=>lJ I r.k.word K.1 K.2);rw[show rS r.k.word=(cV r.k.word).seq from rfl,show rC r.k.word=(cV r.k.word).cs from rfl,show rO r.k.word=(cV r.k.word).code from rfl,show rV r.k.word=(cV r.k.word).value from rfl]at W;obtain⟨B,HH⟩:=av (λI (h:RN I X p c A n k t m q r s o)=>fz h Z (qp c t) 0 Q.1 Q.2) H;obtain⟨gq,ij,V,z,b⟩:=H.cT;have M:=HH.Y.cx;unfold bI at M;obtain⟨a,d,-⟩:=ag.aF HH.Y.blk;unfold bI at a;rw[O]at a;clear H Q U;rcases J:nM r.k r.k.word with _|_
 .have E:Rn.waits c t r=(r.store (qp c t) 0).pc 29:=by unfold Rn.waits;rw[au (by omega),au (by omega),au (by omega),au (by omega),au (by omega),au (by omega),au (by omega),au (by omega),au (by omega),ay O];dsimp only;rw[au (by rw[J];decide)];try rfl
  rw[E];clear E;go_enter func169,ntmps169;go_wp2_with fail;clear a d;go_region_held3(RX w p m 0 0) (exact gw) (first
   |((with_reducible go_fit (T.Y _));rintro e wA ⟨rfl,u⟩;have mg:=RX.below (by assumption) u;(try have nG:=V.Y _ _ (by assumption) u);(try have nR:=z.Y _ _ (by assumption) u))
   |((with_reducible go_fit (B.Y _ (by assumption)));rintro e y ⟨rfl,j,x,i⟩;have jR:=RX.acc (by assumption) HH.Y.blk i (x.kept i rfl);have D:=cP.trans (by assumption) i))
  all_goals
   obtain⟨f,L⟩:=av x D;clear x i D M b;obtain⟨a,d,b⟩:=ag.aF f.Y.blk;unfold bI Rn.store at a;dsimp only at a;go_wp2_with fail;clear a d b;have G:RN (y.setCell ⟨p,0,none⟩ (.int .i64 29)) X p c A n k t j (q+1) ((r.store (qp c t) 0).pc 29) s o:=RN.leaf f.Y s o {f.Y.tk with} f.Y.op rfl;obtain⟨l,R⟩:=av G (((gv.refl y p).set 0 (.int .i64 29)).fr j);clear G;generalize(y.setCell ⟨p,0,none⟩ (.int .i64 29))=w2 at *;have C:=ae (rP l.Y r.k.word K);rw[show nM ((r.store (qp c t) 0).pc 29).k r.k.word=false from J]at C;obtain⟨a,-,b⟩:=ag.aF l.Y.blk;unfold bI Rn.pc Rn.store at a;dsimp only at a;go_wp2_with fail;(with_reducible go_fit C.Y);rintro e w5 ⟨rfl,v⟩;obtain⟨F,S⟩:=av (l.Y.more v) ((L.Y.trans R.Y).trans (cP.ext v p j));clear v a b;obtain⟨a,d,b⟩:=ag.aF F.Y.blk;unfold bI Rn.pc Rn.store at a;dsimp only at a;go_wp2;go_end0;exact⟨rfl,_,_,_,F.Y,S.Y⟩
 .have E:Rn.waits c t r={(r.store (qp c t) 0).pc 29 with k:={(r.k)with pc:=22,res:=cV r.k.word,dK:=0}}:=by unfold Rn.waits;rw[au (by omega),au (by omega),au (by omega),au (by omega),au (by omega),au (by omega),au (by omega),au (by omega),au (by omega),ay O];dsimp only;rw[ay J];try rfl
  rw[E];clear E;go_enter func169,ntmps169;go_wp2_with fail;clear a d;go_region_held3(RX w p m 0 0) (exact gw) (first
   |((with_reducible go_fit (T.Y _));rintro e wA ⟨rfl,u⟩;have mg:=RX.below (by assumption) u;(try have nG:=V.Y _ _ (by assumption) u);(try have nR:=z.Y _ _ (by assumption) u))
   |((with_reducible go_fit (B.Y _ (by assumption)));rintro e y ⟨rfl,j,x,i⟩;have jR:=RX.acc (by assumption) HH.Y.blk i (x.kept i rfl);have D:=cP.trans (by assumption) i))
  all_goals
   obtain⟨f,L⟩:=av x D;clear x i D M b;obtain⟨a,d,b⟩:=ag.aF f.Y.blk;unfold bI Rn.store at a;dsimp only at a;go_wp2_with fail;clear a d b;have G:RN (y.setCell ⟨p,0,none⟩ (.int .i64 29)) X p c A n k t j (q+1) ((r.store (qp c t) 0).pc 29) s o:=RN.leaf f.Y s o {f.Y.tk with} f.Y.op rfl;obtain⟨l,R⟩:=av G (((gv.refl y p).set 0 (.int .i64 29)).fr j);clear G;generalize(y.setCell ⟨p,0,none⟩ (.int .i64 29))=w2 at *;have C:=ae (rP l.Y r.k.word K);rw[show nM ((r.store (qp c t) 0).pc 29).k r.k.word=true from J]at C;obtain⟨a,-,b⟩:=ag.aF l.Y.blk;unfold bI Rn.pc Rn.store at a;dsimp only at a;go_wp2_with fail;(with_reducible go_fit C.Y);rintro e w5 ⟨rfl,v⟩;obtain⟨F,S⟩:=av (l.Y.more v) ((L.Y.trans R.Y).trans (cP.ext v p j));clear v a b;obtain⟨a,d,b⟩:=ag.aF F.Y.blk;unfold bI Rn.pc Rn.store at a;dsimp only at a;go_wp2_with fail;(with_reducible go_fit (W.Y _));rintro e w6 ⟨rfl,P⟩;obtain⟨g,Y⟩:=av (F.Y.more P) (S.Y.trans (cP.ext P p j));clear P a d b;obtain⟨a,d,b⟩:=ag.aF g.Y.blk;unfold bI Rn.pc Rn.store at a;dsimp only at a;go_wp2;go_end0;refine cW.then Y.Y ?_;exact cW.leaf g.Y s o {g.Y.tk with} g.Y.op rfl
theorem QZ(H:RN w X p c A n k t m q r s o)(E:RB c N r)(K:q<=900000)(l:r.k.pc=35):Calls prog 169 #[.pointer p] w (cW X p c A n k t m (q+1) (Rn.waits c t r) w):=by
 have G:=E.k.base;unfold vP at G;have u:=size_le H.cs.ee;have ko:=H.cs.th;have L:=H.cs.t1;have uy:=H.cs.t0;have I:0<=bV c r.k.base.ix/\bV c r.k.base.ix<=100000000:=by have Y:=lL H.cs.ee (i:=r.k.base.ix) (by omega) (by omega);have Z:=(Mo.aO H.cs.ee).1;unfold bV;omega
 have D:Rn.waits c t r=if aG r.L (bV c r.k.base.ix)=r.k.base.tag then r.pc 36 else r.pc 37:=by unfold Rn.waits;rw[au (by omega),au (by omega),au (by omega),au (by omega),au (by omega),au (by omega),ay l];split<;>rfl
 rw[D];obtain⟨F,y⟩:=av (λC (h:RN C X p c A n k t m q (r.pc 37) s o)=>jX h r.k.base.ix r.k.base.tag (by omega) (by omega)) (λC (h:RN C X p c A n k t m q (r.pc 37) s o)=>di h K _ I.1);obtain⟨x,v⟩:∃x,x=aG r.L (bV c r.k.base.ix):=⟨_,rfl⟩
 rw[show(r.pc 37).L=r.L from rfl, <-v]at y;rw[<-v];have M:IntKind.u64.wrap r.k.base.tag=r.k.base.tag:=Br (by omega) (by omega);have HH:=ae H;have bb:=H.lt;obtain⟨aC,bC,-⟩:=ag.aF HH.Y.blk;unfold bI at aC;rw[l]at aC;clear D l H v I G u E;by_cases d:x=r.k.base.tag
 .rw[ay d];have U:(x==r.k.base.tag)=true:=by rw[d];exact beq_self_eq_true _
  clear d;go_enter func169,ntmps169;go_upto_region 3 with fail
  clear aC bC bb;have g:RN (w.setCell ⟨p,0,none⟩ (.int .i64 37)) X p c A n k t m q (r.pc 37) s o:=RN.leaf HH.Y s o {HH.Y.tk with} HH.Y.op rfl;obtain⟨f,z⟩:=av g (((gv.refl w p).set 0 (.int .i64 37)).fr m);clear g;generalize(w.setCell ⟨p,0,none⟩ (.int .i64 37))=B at *;have ir:=ae f.Y;obtain⟨J,O,j,a,bb⟩:=f.Y.cT;have aT:=ir.Y.cx;unfold bI Rn.pc at aT;dsimp only at aT;go_wp2;go_region_held3(RX B p m 0 0) (exact gw) (first
   |((with_reducible go_fit (F.Y _ (by assumption)));rintro e V ⟨rfl,b⟩;have R:=RX.below (by assumption) b;(try have S:=j.Y _ _ (by assumption) b);(try have T:=a.Y _ _ (by assumption) b))
   |((with_reducible go_fit (y.Y _ (by assumption)));rintro e W ⟨rfl,Q,hC,fC⟩;have P:=RX.acc (by assumption) ir.Y.blk fC (hC.kept fC rfl);have eJ:=cP.trans (by assumption) fC))
  all_goals
   obtain⟨HR,HF⟩:=av hC (z.Y.trans eJ);exact Xm
 .rw[au d];have U:(x==r.k.base.tag)=false:=by rw[dp];exact d
  clear d;go_enter func169,ntmps169;go_upto_region 3 with fail
  clear aC bC bb;have g:RN (w.setCell ⟨p,0,none⟩ (.int .i64 37)) X p c A n k t m q (r.pc 37) s o:=RN.leaf HH.Y s o {HH.Y.tk with} HH.Y.op rfl;obtain⟨f,z⟩:=av g (((gv.refl w p).set 0 (.int .i64 37)).fr m);clear g;generalize(w.setCell ⟨p,0,none⟩ (.int .i64 37))=B at *;have ir:=ae f.Y;obtain⟨J,O,j,a,bb⟩:=f.Y.cT;have aT:=ir.Y.cx;unfold bI Rn.pc at aT;dsimp only at aT;go_wp2;go_region_held3(RX B p m 0 0) (exact gw) (first
   |((with_reducible go_fit (F.Y _ (by assumption)));rintro e V ⟨rfl,b⟩;have R:=RX.below (by assumption) b;(try have S:=j.Y _ _ (by assumption) b);(try have T:=a.Y _ _ (by assumption) b))
   |((with_reducible go_fit (y.Y _ (by assumption)));rintro e W ⟨rfl,Q,hC,fC⟩;have P:=RX.acc (by assumption) ir.Y.blk fC (hC.kept fC rfl);have eJ:=cP.trans (by assumption) fC))
  all_goals
   obtain⟨HR,HF⟩:=av hC (z.Y.trans eJ);clear hC fC eJ aT bb;exact Xn
theorem Q5(H:RN w X p c A n k t m q r s o)(F:RB c N r)(R:q<=900000)(l:r.k.pc=36):Calls prog 169 #[.pointer p] w (cW X p c A n k t m (q+1) (Rn.waits c t r) w):=by
 have P:=F.k.base;unfold vP at P;have d:=size_le H.cs.ee;have U:=H.cs.th;have C:=H.cs.t1;have W:=H.cs.t0;have Q:0<=bV c r.k.base.ix/\bV c r.k.base.ix<=100000000:=by have h1:=lL H.cs.ee (i:=r.k.base.ix) (by omega) (by omega);have h2:=(Mo.aO H.cs.ee).1;unfold bV;omega
 have K:Rn.waits c t r={r with k:={r.k with word:=aG r.L (bV c r.k.base.ix+1+bA c-c.threads+t),pc:=37}}:=by unfold Rn.waits;rw[au (by omega),au (by omega),au (by omega),au (by omega),au (by omega),au (by omega),au (by omega),ay l]
 rw[K];obtain⟨O,E⟩:=av (λf (h:RN f X p c A n k t m q r s o)=>jX h r.k.base.ix r.k.base.tag (by omega) (by omega)) (λf (h:RN f X p c A n k t m q r s o)=>Bl h);obtain⟨a,B⟩:∃a,a=bV c r.k.base.ix:=⟨_,rfl⟩
 obtain⟨z,j⟩:∃z,z=bA c:=⟨_,rfl⟩
 have D:c.threads<=z:=by rw[j];exact U7 H.cs.ee
 rw[<-B]at Q O;rw[<-j]at d E;have M:=ae (λf (h:RN f X p c A n k t m q r s o)=>di h R (a+1+z-c.threads+t) (by omega));rw[<-B, <-j];obtain⟨x,L⟩:∃x,x=aG r.L (a+1+z-c.threads+t):=⟨_,rfl⟩
 rw[<-L]at M ⊢;have Y:IntKind.i64.wrap (a+1)=a+1:=kD (by omega) (by omega);have Z:IntKind.i64.wrap (a+1+z)=a+1+z:=kD (by omega) (by omega);have e3:IntKind.i64.wrap (a+1+z-c.threads)=a+1+z-c.threads:=kD (by omega) (by omega);have e4:IntKind.i64.wrap (a+1+z-c.threads+t)=a+1+z-c.threads+t:=kD (by omega) (by omega);have HH:=ae H;obtain⟨gq,ij,I,b,bb⟩:=H.cT;obtain⟨aC,bC,-⟩:=ag.aF HH.Y.blk;unfold bI at aC;rw[l]at aC;clear K l H L Q P d F B j U C W D;go_enter func169,ntmps169;go_wp2_with fail;clear aC bC;obtain⟨G,V,T,S⟩:=HH.Y.FH 18 19;unfold bI at G;go_region_held3(RX w p m 18 19) (exact gw) (first
  |((with_reducible go_fit (O.Y _ (by assumption)));rintro e wA ⟨rfl,u⟩;have mg:=RX.below (by assumption) u;(try have nG:=I.Y _ _ (by assumption) u);(try have nR:=b.Y _ _ (by assumption) u))
  |((with_reducible go_fit (E.Y _ (by assumption)));rintro e wB ⟨rfl,v⟩;have nE:=RX.below (by assumption) v;(try have zK:=I.Y _ _ (by assumption) v);(try have wG:=b.Y _ _ (by assumption) v))
  |((with_reducible go_fit (M.Y _ (by assumption)));rintro e wC ⟨rfl,mC,y,g⟩;have jR:=RX.acc (by assumption) HH.Y.blk g (y.kept g rfl);have J:=cP.trans (by assumption) g))
 all_goals
  obtain⟨HR,HF⟩:=av y J;clear y g J G V T S bb;exact ZQ
theorem Iy(H:RN w X p c A n k t m q r s o)(f:RB c N r)(i:q<=900000)(l:35<=r.k.pc):Calls prog 169 #[.pointer p] w (cW X p c A n k t m (q+1) (Rn.waits c t r) w):=by
 have a:=f.f.a.1.2;rcases(by omega:r.k.pc=35\/r.k.pc=36\/r.k.pc=37\/r.k.pc=38)with h|h|h|h
 .exact QZ H f i h
 .exact Q5 H f i h
 .exact QW H i h
 .exact QX H f i h
theorem Q6(H:RN w X p c A n k t m q r s o)(f:RB c N r)(y:N<=100000)(l:q<=900000)(i:r.k.pc=30):Calls prog 112 #[.pointer p] w (cW X p c A n k t m (q+1) (Rn.waits c t r) w):=by
 have HL:=ae (di H l 1 af);have a:=(f.L.at_ 1).1;have b:=f.g.1;have d:Rn.waits c t r={r with k:={r.k with js:=aG r.L 1,pc:=31}}:=by unfold Rn.waits;rw[au aa,ay i]
 rw[d];generalize aG r.L 1=x at HL a b ⊢;have j:IntKind.i64.wrap x=x:=kD a aa;have HH:=ae H;obtain⟨g,h,u,e,bb⟩:=H.cT;obtain⟨aC,bC,-⟩:=ag.aF HH.blk;unfold bI at aC;rw[i]at aC;clear H d i f g h;go_enter func112,ntmps112;exact abI
theorem Q7(H:RN w X p c A n k t m q r s o)(i:RB c N r)(l:q<=900000)(f:r.k.pc=32):Calls prog 112 #[.pointer p] w (cW X p c A n k t m (q+1) (Rn.waits c t r) w):=by
 have HL:=ae (di H l 0 af);have a:=i.L.at_ 0;have b:Rn.waits c t r={r with k:={r.k with base:=(jE (aG r.L 0)).1,pc:=33}}:=by unfold Rn.waits;rw[au aa,au aa,au aa,ay f]
 rw[b];generalize aG r.L 0=x at HL a ⊢;obtain⟨jC,HH⟩:=av (λh=>AB h x a.1 a.2) H;obtain⟨e,g,j,d,bb⟩:=H.cT;obtain⟨aC,bC,-⟩:=ag.aF HH.blk;unfold bI at aC;rw[f]at aC;clear H b f i a e g;go_enter func112,ntmps112;exact abJ
theorem Q8(H:RN w X p c A n k t m q r s o)(l:RB c N r)(C:N<=100000)(y:q<=900000)(f:r.k.pc=31):Calls prog 112 #[.pointer p] w (cW X p c A n k t m (q+1) (Rn.waits c t r) w):=by
 have i:=l.k.ep;have g:=(dZ H.cs.ee H.cs.t0 H.cs.t1).2.2.1;have j:Rn.waits c t r=(r.store (qp c t) (jt r.k.js)).pc 32:=by unfold Rn.waits;rw[au (by omega),au (by omega),ay f]
 rw[j];have u:=ae (λwx=>tV wx H.cs.ee A k n t H.cs.t0 (by have:=H.cs.t1;have:=H.cs.th;omega));have v:Hid (∀wx,Calls prog 137 #[r.k.js] wx λe z=>e=.returned (.int .u64 (jt r.k.js))/\wx=z):=λwx=>by exact WZ
 obtain⟨b,HH⟩:=av (λwx (h:RN wx X p c A n k t m q r s o)=>fz h y (qp c t) (jt r.k.js) g.1 g.2) H;obtain⟨B,D,x,a,bb⟩:=H.cT;have aT:=HH.Y.cx;unfold bI at aT;obtain⟨aC,bC,-⟩:=ag.aF HH.Y.blk;unfold bI at aC;rw[f]at aC;clear H j f l g i;go_enter func112,ntmps112;go_wp2_with fail;clear aC bC;go_region_held3(RX w p m 0 0) (exact gw) (first
  |((with_reducible go_fit (u.Y _));rintro e K ⟨rfl,d⟩;have G:=RX.below (by assumption) d;(try have I:=x.Y _ _ (by assumption) d);(try have J:=a.Y _ _ (by assumption) d))
  |((with_reducible go_fit (v.Y _));rintro e L ⟨rfl,rfl⟩)
  |((with_reducible go_fit (b.Y _ (by assumption)));rintro e M ⟨rfl,F,hC,fC⟩;have E:=RX.acc (by assumption) HH.Y.blk fC (hC.kept fC rfl);have eJ:=cP.trans (by assumption) fC))
 exact Zy
theorem Q9(H:RN w X p c A n k t m q r s o)(y:q<=900000)(f:r.k.pc=33):Calls prog 112 #[.pointer p] w (cW X p c A n k t m (q+1) (Rn.waits c t r) w):=by
 have j:=(dZ H.cs.ee H.cs.t0 H.cs.t1).2.1;have u:Rn.waits c t r=(r.store (jZ c t) (cm r.k.base)).pc 34:=by unfold Rn.waits;rw[au (by omega),au (by omega),au (by omega),au (by omega),ay f]
 rw[u];have v:=ae (λa=>qI a H.cs.ee A k n t H.cs.t0 (by have:=H.cs.t1;have:=H.cs.th;omega));have x:Hid (∀a,Calls prog 97 #[.agg #[r.k.base.ix,r.k.base.tag]] a λe z=>e=.returned (.int .u64 (cm r.k.base))/\Below a a z):=λa=>ia a _ _;obtain⟨d,HH⟩:=av (λa (h:RN a X p c A n k t m q r s o)=>fz h y (jZ c t) (cm r.k.base) j.1 j.2) H;obtain⟨B,C,l,b,bb⟩:=H.cT;have aT:=HH.Y.cx;unfold bI at aT;obtain⟨aC,bC,-⟩:=ag.aF HH.Y.blk;unfold bI at aC;rw[f]at aC;clear H u f j;go_enter func112,ntmps112;go_wp2_with fail;clear aC bC;go_region_held3(RX w p m 0 0) (exact gw) (first
  |((with_reducible go_fit (v.Y _));rintro e K ⟨rfl,g⟩;have F:=RX.below (by assumption) g;(try have I:=l.Y _ _ (by assumption) g);(try have J:=b.Y _ _ (by assumption) g))
  |((with_reducible go_fit (x.Y _));rintro e L ⟨rfl,i⟩;have G:=RX.below (by assumption) i;(try have O:=l.Y _ _ (by assumption) i);(try have N:=b.Y _ _ (by assumption) i))
  |((with_reducible go_fit (d.Y _ (by assumption)));rintro e M ⟨rfl,E,hC,fC⟩;have D:=RX.acc (by assumption) HH.Y.blk fC (hC.kept fC rfl);have eJ:=cP.trans (by assumption) fC))
 exact Zy
theorem Ra(H:RN w X p c A n k t m q r s o)(J:q<=900000)(u:r.k.pc=34):Calls prog 112 #[.pointer p] w (cW X p c A n k t m (q+1) (Rn.waits c t r) w):=by
 have F:Rn.waits c t r=if aG r.L 0=cm r.k.base then{r with k:={r.k with word:=0,pc:=35}}else{r with k:={r.k with word:=0,pc:=37}}:=by unfold Rn.waits;rw[au (by omega),au (by omega),au (by omega),au (by omega),au (by omega),ay u];split<;>rfl
 rw[F];obtain⟨x,z⟩:∃x,x=aG r.L 0:=⟨_,rfl⟩
 obtain⟨y,B⟩:∃y,y=cm r.k.base:=⟨_,rfl⟩
 have E:Hid (∀f,Calls prog 97 #[.agg #[r.k.base.ix,r.k.base.tag]] f λe O=>e=.returned (.int .u64 y)/\Below f f O):=λf=>by
  rw[B]
  exact ia f _ _
 have C:=ae (λf (h:RN f X p c A n k t m q {r with k:={r.k with word:=0,pc:=37}} s o)=>di h J 0 (by decide));rw[show({r with k:={r.k with word:=0,pc:=37}}:Rn).L=r.L from rfl, <-z]at C;rw[<-z, <-B];have HH:=ae H;have bb:=H.lt;obtain⟨aC,bC,-⟩:=ag.aF HH.Y.blk;unfold bI at aC;rw[u]at aC;clear F u H z B;by_cases g:x=y
 .rw[ay g];have N:(x==y)=true:=by rw[g];exact beq_self_eq_true _
  clear g;go_enter func112,ntmps112;go_upto_region 22 with fail
  clear aC bC bb;have j:RN ((w.setCell ⟨p,18,none⟩ (.int .u64 0)).setCell ⟨p,0,none⟩ (.int .i64 37)) X p c A n k t m q {r with k:={r.k with word:=0,pc:=37}} s o:=RN.leaf HH.Y s o {HH.Y.tk with} HH.Y.op rfl;obtain⟨i,l⟩:=av j ((((gv.refl w p).set 18 (.int .u64 0)).set 0 (.int .i64 37)).fr m);clear j;generalize((w.setCell ⟨p,18,none⟩ (.int .u64 0)).setCell ⟨p,0,none⟩ (.int .i64 37))=d at *;have ir:=ae i.Y;obtain⟨I,K,v,b,bb⟩:=i.Y.cT;have aT:=ir.Y.cx;unfold bI at aT;dsimp only at aT;go_wp2;go_region_held3(RX d p m 0 0) (exact gw) (first
   |((with_reducible go_fit (E.Y _));rintro e P ⟨rfl,a⟩;have M:=RX.below (by assumption) a;(try have S:=v.Y _ _ (by assumption) a);(try have R:=b.Y _ _ (by assumption) a))
   |((with_reducible go_fit (C.Y _ (by assumption)));rintro e Q ⟨rfl,D,hC,fC⟩;have L:=RX.acc (by assumption) ir.Y.blk fC (hC.kept fC rfl);have G:=cP.trans (by assumption) fC))
  all_goals
   first
    |(have HF:=ae ((l.Y.trans ((cP.ext (ai d).drew p m).trans (cP.ext a p m))).trans fC);have HR:=ae hC)
    |(have HF:=ae ((l.Y.trans ((cP.ext (ai d).drew p m).trans fC)).trans (cP.ext a p D));have HR:=ae (hC.more a))
   exact W6
 .rw[au g];have N:(x==y)=false:=by rw[dp];exact g
  clear g;go_enter func112,ntmps112;go_upto_region 22 with fail
  clear aC bC bb;have j:RN ((w.setCell ⟨p,18,none⟩ (.int .u64 0)).setCell ⟨p,0,none⟩ (.int .i64 37)) X p c A n k t m q {r with k:={r.k with word:=0,pc:=37}} s o:=RN.leaf HH.Y s o {HH.Y.tk with} HH.Y.op rfl;obtain⟨i,l⟩:=av j ((((gv.refl w p).set 18 (.int .u64 0)).set 0 (.int .i64 37)).fr m);clear j;generalize((w.setCell ⟨p,18,none⟩ (.int .u64 0)).setCell ⟨p,0,none⟩ (.int .i64 37))=d at *;have ir:=ae i.Y;obtain⟨I,K,v,b,bb⟩:=i.Y.cT;have aT:=ir.Y.cx;unfold bI at aT;dsimp only at aT;go_wp2;go_region_held3(RX d p m 0 0) (exact gw) (first
   |((with_reducible go_fit (E.Y _));rintro e P ⟨rfl,a⟩;have M:=RX.below (by assumption) a;(try have S:=v.Y _ _ (by assumption) a);(try have R:=b.Y _ _ (by assumption) a))
   |((with_reducible go_fit (C.Y _ (by assumption)));rintro e Q ⟨rfl,D,hC,fC⟩;have L:=RX.acc (by assumption) ir.Y.blk fC (hC.kept fC rfl);have G:=cP.trans (by assumption) fC))
  all_goals
   first
    |(have HF:=ae ((l.Y.trans ((cP.ext (ai d).drew p m).trans (cP.ext a p m))).trans fC);have HR:=ae hC)
    |(have HF:=ae ((l.Y.trans ((cP.ext (ai d).drew p m).trans fC)).trans (cP.ext a p D));have HR:=ae (hC.more a))
   clear hC fC aT bb;exact Xn
theorem Rb(H:RN w X p c A n k t m q r s o)(Y:RB c N r)(hq:q<=900000)(P:r.k.pc=29):Calls prog 112 #[.pointer p] w (cW X p c A n k t m (q+1) (Rn.waits c t r) w):=by
 have Z:=(dZ H.cs.ee H.cs.t0 H.cs.t1).2.2.2.1;have F:=Y.L.at_ (ea c t);obtain⟨V,S⟩:=av (λB=>jV B H.cs.ee A k n t H.cs.t0 (by have:=H.cs.t1;have:=H.cs.th;omega)) (λB (h:RN B X p c A n k t m q r s o)=>di h hq _ Z.1);obtain⟨x,R⟩:∃x,x=aG r.L (ea c t):=⟨_,rfl⟩
 rw[<-R]at S F;have jC:=ae (λB=>lJ B x F.1 F.2);rw[show rS x=(cV x).seq from rfl,show rC x=(cV x).cs from rfl,show rO x=(cV x).code from rfl,show rV x=(cV x).value from rfl]at jC;have L:Rn.waits c t r=if nM r.k x=true then Rn.finish {r with k:={r.k with res:=cV x,pc:=30}}else r.pc 30:=by unfold Rn.waits;rw[ay P, <-R]
 have HH:=ae H;obtain⟨gq,ij,W,C,b⟩:=H.cT;have O:=HH.Y.cx;unfold bI at O;obtain⟨a,d,-⟩:=ag.aF HH.Y.blk;unfold bI at a;rw[P]at a;clear H Z Y R P;rcases K:nM r.k x with _|_
 .have J:Rn.waits c t r=r.pc 30:=by rw[L,au (by rw[K];decide)]
  rw[J];clear L J;go_enter func112,ntmps112;go_wp2_with fail;clear a d;go_region_held3(RX w p m 0 0) (exact gw) (first
   |((with_reducible go_fit (V.Y _));rintro e wA ⟨rfl,u⟩;have mg:=RX.below (by assumption) u;(try have nG:=W.Y _ _ (by assumption) u);(try have nR:=C.Y _ _ (by assumption) u))
   |((with_reducible go_fit (S.Y _ (by assumption)));rintro e z ⟨rfl,j,y,i⟩;have jR:=RX.acc (by assumption) HH.Y.blk i (y.kept i rfl);have E:=cP.trans (by assumption) i))
  all_goals
   obtain⟨f,M⟩:=av y E;clear y i E O b;obtain⟨a,d,b⟩:=ag.aF f.Y.blk;unfold bI at a;go_wp2_with fail;clear a d b;have I:RN (z.setCell ⟨p,0,none⟩ (.int .i64 30)) X p c A n k t j (q+1) (r.pc 30) s o:=RN.leaf f.Y s o {f.Y.tk with} f.Y.op rfl;obtain⟨l,T⟩:=av I (((gv.refl z p).set 0 (.int .i64 30)).fr j);clear I;generalize(z.setCell ⟨p,0,none⟩ (.int .i64 30))=w2 at *;have D:=ae (rP l.Y x F);rw[show nM (r.pc 30).k x=false from K]at D;obtain⟨a,-,b⟩:=ag.aF l.Y.blk;unfold bI Rn.pc at a;dsimp only at a;go_wp2_with fail;(with_reducible go_fit D.Y);rintro e w5 ⟨rfl,v⟩;obtain⟨G,U⟩:=av (l.Y.more v) ((M.Y.trans T.Y).trans (cP.ext v p j));clear v a b;obtain⟨a,d,b⟩:=ag.aF G.Y.blk;unfold bI Rn.pc at a;dsimp only at a;go_wp2;go_end0;exact⟨rfl,_,_,_,G.Y,U.Y⟩
 .have J:Rn.waits c t r=Rn.finish {r with k:={r.k with res:=cV x,pc:=30}}:=by rw[L,ay K]
  rw[J];clear L J;have Xl:=ae (λB mx (h:RN B X p c A n k t mx (q+1) {r with k:={r.k with res:=cV x,pc:=30}} s o)=>ra h);go_enter func112,ntmps112;go_wp2_with fail;clear a d;go_region_held3(RX w p m 0 0) (exact gw) (first
   |((with_reducible go_fit (V.Y _));rintro e wA ⟨rfl,u⟩;have mg:=RX.below (by assumption) u;(try have nG:=W.Y _ _ (by assumption) u);(try have nR:=C.Y _ _ (by assumption) u))
   |((with_reducible go_fit (S.Y _ (by assumption)));rintro e z ⟨rfl,j,y,i⟩;have jR:=RX.acc (by assumption) HH.Y.blk i (y.kept i rfl);have E:=cP.trans (by assumption) i))
  all_goals
   obtain⟨f,M⟩:=av y E;clear y i E O b;obtain⟨a,d,b⟩:=ag.aF f.Y.blk;unfold bI at a;go_wp2_with fail;clear a d b;have I:RN (z.setCell ⟨p,0,none⟩ (.int .i64 30)) X p c A n k t j (q+1) (r.pc 30) s o:=RN.leaf f.Y s o {f.Y.tk with} f.Y.op rfl;obtain⟨l,T⟩:=av I (((gv.refl z p).set 0 (.int .i64 30)).fr j);clear I;generalize(z.setCell ⟨p,0,none⟩ (.int .i64 30))=w2 at *;have D:=ae (rP l.Y x F);rw[show nM (r.pc 30).k x=true from K]at D;obtain⟨a,-,b⟩:=ag.aF l.Y.blk;unfold bI Rn.pc at a;dsimp only at a;go_wp2_with fail;(with_reducible go_fit D.Y);rintro e w5 ⟨rfl,v⟩;obtain⟨G,U⟩:=av (l.Y.more v) ((M.Y.trans T.Y).trans (cP.ext v p j));clear v a b;obtain⟨a,d,b⟩:=ag.aF G.Y.blk;unfold bI Rn.pc at a;dsimp only at a;go_wp2_with fail;(with_reducible go_fit (jC.Y _));rintro e w6 ⟨rfl,Q⟩;obtain⟨g,C7⟩:=av (G.Y.more Q) (U.Y.trans (cP.ext Q p j));clear Q a d b;obtain⟨a,d,b⟩:=ag.aF g.Y.blk;unfold bI Rn.pc at a;dsimp only at a;go_wp2_with fail;go_fit (Xl.Y _ j ?_)
   .exact RN.leaf g.Y s o {g.Y.tk with} g.Y.op rfl
   .rintro e w7 ⟨rfl,(HX:Hid _)⟩;go_wp2;go_end0;refine cW.then C7.Y (cW.after ⟨rfl,HX.Y⟩ ?_);exact WW
theorem IA(H:RN w X p c A n k t m q r s o)(f:RB c N r)(u:N<=100000)(l:q<=900000)(y:29<=r.k.pc):Calls prog 112 #[.pointer p] w (cW X p c A n k t m (q+1) (Rn.waits c t r) w):=by
 by_cases i:r.k.pc<=34
 .rcases(by omega:r.k.pc=29\/r.k.pc=30\/r.k.pc=31\/r.k.pc=32\/r.k.pc=33\/r.k.pc=34)with h|h|h|h|h|h
  .exact Rb H f l h
  .exact Q6 H f u l h
  .exact Q8 H f u l h
  .exact Q7 H f l h
  .exact Q9 H l h
  .exact Ra H l h
 .have b:=ae (Iy H f l aa);have v:=f.f.a.1.2;obtain⟨g,-,F⟩:=ag.aF H.blk;unfold bI at g;clear H f;have a:∀j:Int,j<=34->(r.k.pc==j)=false:=λj G=>by rw[dp];omega
  have x:=a 29 af;have z:=a 30 af;have B:=a 31 af;have C:=a 32 af;have D:=a 33 af;have E:=a 34 af;clear a y i v;go_enter func112,ntmps112;go_wp2_with fail;refine b.mono ?_;rintro e I ⟨rfl,(d:Hid _)⟩;go_wp2;go_end0;exact⟨rfl,d⟩
theorem Bt(q:Rq)(f:Int):lK q.kind q.arg q.value q.dflt q.cases f=kg q f:=by unfold lK kg;simp only[eT];rfl
theorem Rc(H:RN w X p c A n k t m q r s o)(y:q<=900000) :
 Calls prog 156 #[.pointer (some ⟨m.g,0,none⟩),t,.int .i64 2,.int .u64 1] w (RnV X p c A n k t m (q+1) (r.store 2 ((aG r.L 2+1)%18446744073709551616)) s o (.tuple #[.int .u64 (aG r.L 2),oZ]) w):=by
 have g:(2:Int)<bG c:=by have h:=(dZ H.cs.ee H.cs.t0 H.cs.t1).1.2;have:=H.cs.t0;unfold pg at h;omega
 obtain⟨j,v,l⟩:=H.word (a:=2) af g
 have b:j=2:=aa
 subst b
 go_fit (Uf _ 0 m.g m.vl m.vg m.vc r.L m.G m.C m.kp t 2 _ 1 H.mem.mv H.mem.cl (bm H.mem.gl aa) H.FF l)
 rintro e x ⟨rfl,i⟩
 obtain⟨u,d,f⟩:=H.acc i (dN)
 refine⟨rfl,u,?_,f⟩
 unfold Rn.store
 rw[show Mo.setAt r.L 2 ((aG r.L 2+1)%18446744073709551616)=r.L.set 2 ((aG r.L 2+1)%18446744073709551616)from vx r.L 2 _]
 rw[cA]at d
 exact d
theorem EW(H:RN w X p c A n k t m q r s o)(i:RB c N r)(l:c.bw<=1048575)(u:q<=900000)(f:r.k.pc=18):Calls prog 108 #[.pointer p] w (cW X p c A n k t m (q+1) (Rn.cZ c t r) w):=by
 have b:=(dZ H.cs.ee H.cs.t0 H.cs.t1).1;have a:=i.k.seq;have g:IntKind.u64.wrap r.k.seq=r.k.seq:=Br a.1 aa;obtain⟨HA,HST⟩:=av (λd=>yh d H.cs.ee A k n t H.cs.t0 (by have:=H.cs.t1;have:=H.cs.th;omega)) (λd (h:RN d X p c A n k t m q r s o)=>fz h u (pg c t) r.k.seq b.1 b.2);have e:Rn.cZ c t r={r.store (pg c t) r.k.seq with k:={r.k with p5:=true,round:=1,pc:=3}}:=by unfold Rn.cZ;rw[au aa,au aa,ay f]
 rw[e];have HH:=ae H;obtain⟨j,v,dA,HFm,bb⟩:=H.cT;have aT:=HH.cx;unfold bI at aT;obtain⟨aC,bC,-⟩:=ag.aF HH.blk;unfold bI at aC;rw[f]at aC;clear H b e f i a l;go_enter func108,ntmps108;exact abR
theorem EX(H:RN w X p c A n k t m q r s o)(u:RB c N r)(J:q<=900000)(i:r.k.pc=19):Calls prog 108 #[.pointer p] w (cW X p c A n k t m (q+1) (Rn.cZ c t r) w):=by
 have C:=(dZ H.cs.ee H.cs.t0 H.cs.t1).2.2.2.1;have d:=u.L.at_ (ea c t);obtain⟨G,E⟩:=av (λa=>jV a H.cs.ee A k n t H.cs.t0 (by have:=H.cs.t1;have:=H.cs.th;omega)) (λa (h:RN a X p c A n k t m q r s o)=>di h J _ C.1);have B:Rn.cZ c t r={r with k:={r.k with res:=cV (aG r.L (ea c t)),pc:=20}}:=by unfold Rn.cZ;rw[au aa,au aa,au aa,ay i]
 rw[B];generalize aG r.L (ea c t)=x at E d ⊢;have D:=ae (λa=>lJ a x d.1 d.2);rw[show rS x=(cV x).seq from rfl,show rC x=(cV x).cs from rfl,show rO x=(cV x).code from rfl,show rV x=(cV x).value from rfl]at D;have HH:=ae H;obtain⟨Q,R,I,f,bb⟩:=H.cT;obtain⟨v,O,L,K⟩:=HH.FH 27 31;unfold bI at v;obtain⟨aC,bC,-⟩:=ag.aF HH.blk;unfold bI at aC;rw[i]at aC;clear H C B i u d;go_enter func108,ntmps108;go_wp2_with fail;clear aC bC;go_region_held3(RX w p m 27 31) (exact gw) (first
  |((with_reducible go_fit (G.Y _));rintro e W ⟨rfl,g⟩;have T:=RX.below aN g;(try have U:=I.Y _ _ aN g);(try have V:=f.Y _ _ aN g))
  |((with_reducible go_fit (E.Y _ aN));rintro e Y ⟨rfl,M,j,b⟩;have S:=RX.acc aN HH.Y.blk b (j.kept b rfl);have y:=cP.trans aN b)
  |((with_reducible go_fit (D.Y _));rintro e Z ⟨rfl,l⟩;have P:=RX.below aN l;have z:=j.more l;have F:=cP.trans y (cP.ext l p M)))
 all_goals
  obtain⟨HR,HF⟩:=av z F;clear j b y z F v O L K bb;exact ZQ
theorem EY(H:RN w X p c A n k t m q r s o)(E:RB c N r)(Z:q<=900000)(G:r.k.pc=16):Calls prog 108 #[.pointer p] w (cW X p c A n k t m (q+1) (Rn.cZ c t r) w):=by
 have z:=E.L.at_ 2;have kR:r.k.aQ.cases.length<=9223372036854775807:=by have h:=E.f.aQ aa;unfold Mo.bt at h;simp only[eT,eI]at h;omega
 have g:=ae (λD (h:RN D X p c A n k t m q r s o)=>Rc h Z);have O:Rn.cZ c t r={r.store 2 ((aG r.L 2+1)%18446744073709551616)with k:={r.k with args:=kg r.k.aQ (aG r.L 2%4294967296),j:=0,pc:=17}}:=by unfold Rn.cZ;rw[ay G]
 rw[O];obtain⟨x,Q⟩:=aw (aG r.L 2);rw[<-Q]at g z ⊢;have i:wrap64 (bits BinOp.and IntKind.u64 x 4294967295)=x%4294967296:=by rw[BJ x z.1 z.2];exact IntWalk.wrap64_in _ aa
 have F:=ae i;clear i;have R:=ae (λD mx (h:RN D X p c A n k t mx (q+1) (r.store 2 ((x+1)%18446744073709551616)) s o)=>xV D r.k.aQ.kind r.k.aQ.arg r.k.aQ.value r.k.aQ.dflt s.cs.A s.cs.c r.k.aQ.cases (x%4294967296) kR h.tk.cs.1);obtain⟨a1,f⟩:=aw (kg r.k.aQ (x%4294967296));rw[Bt r.k.aQ, <-f]at R;rw[<-f];clear f;have HH:=ae H;obtain⟨gq,ij,dA,U,v⟩:=H.cT;have L:=HH.cx;unfold bI at L;obtain⟨a,u,-⟩:=ag.aF HH.blk;unfold bI at a;rw[G]at a;clear H O G E Q z;go_enter func108,ntmps108;go_wp2_with fail;clear a u;go_region_held3(RX w p m 0 0) (exact gw) (first
  |((with_reducible go_fit (g.Y _ aN));rintro e wC ⟨rfl,K,I,y⟩;have jR:=RX.acc aN HH.Y.blk y (I.kept y rfl);have M:=cP.trans aN y))
 all_goals
  obtain⟨l,T⟩:=av I M;clear I y M L v;obtain⟨a,u,v⟩:=ag.aF l.blk;unfold bI Rn.store at a;dsimp only at a;go_wp2_with fail;rw[F.Y];go_fit (R _ K l);rintro e S ⟨B,d,rfl,P,J⟩;obtain⟨C,qG,j⟩:=aS (l.more J) (T.trans (cP.ext J p K)) P;have uf:Hid (∀b,wC.heap.size<=b->b<S.heap.size->Im S X p K b):=λb V W=>Im.fresh l V W;clear a u v P J;obtain⟨a,u,v⟩:=ag.aF C.blk;unfold bI Rn.store at a;dsimp only at a;go_wp2;go_end0;refine cW.then qG ?_;exact cW.leaf C {s with ar:=⟨B,d⟩} o {C.tk with ar:=⟨j.pw.2,λad Y _=>by subst Y;exact uf.Y _ (bk j rfl).1 (bk j rfl).2⟩,la:=j.cap.2} C.op rfl
theorem EZ(H:RN w X p c A n k t m q r s o)(y:RB c N r)(K:q<=900000)(cB:r.k.pc=17):Calls prog 108 #[.pointer p] w (cW X p c A n k t m (q+1) (Rn.cZ c t r) w):=by
 obtain⟨P,x,B⟩:r.k.args.length=5/\0<=r.k.j/\r.k.j<5:=by have h:=y.f.a;unfold nh at h;have f:=h.2.2.2.2.2.2.2.2 cB;have g:=y.k.j;omega
 obtain⟨d,u⟩:∃d:Nat,r.k.j=d:=⟨r.k.j.toNat,aa⟩
 have j:d<r.k.args.length:=aa;have O:(d:Int)<5:=aa;obtain⟨G,z,D,C,E⟩:=H.tk.ar.1.at_ (i:=d) j;have ha:=(dZ H.cs.ee H.cs.t0 H.cs.t1).2.2.2.2 d aa aa;have M:=H.cs.FF;have e1:IntKind.i64.wrap (kn c t+d)=kn c t+d:=kD aa aa;have l:aG r.k.args d=z:=by unfold aG;rw[au aa,fR,ew,C];rfl
 obtain⟨HA,HST⟩:=av (λe=>AV e H.cs.ee A k n t H.cs.t0 (by have:=H.cs.t1;have:=H.cs.th;omega)) (λe (h:RN e X p c A n k t m q r s o)=>fz h K (kn c t+d) z ha.1 ha.2);have hE:Rn.cZ c t r={r.store (kn c t+d) z with k:={r.k with j:=(d:Int)+1,pc:=if(d:Int)+1=5 then 18 else 17}}:=by unfold Rn.cZ;rw[au aa,ay cB,u,l]
 have HH:=ae H;obtain⟨Q,R,dA,HFm,bb⟩:=H.cT;have aT:=HH.cx;unfold bI at aT;obtain⟨aC,bC,-⟩:=ag.aF HH.blk;unfold bI at aC;rw[cB]at aC;have fy:∀e,RX w p m 0 0 e->e.cell? (G.add d)=some (.int .u64 z):=λe L=>by
  have h:=(HH.tk.ar.same λb v=>L.eq b v.1 v.2.1 v.2.2.1).1
  obtain⟨I,S,f,g,J⟩:=h.at_ (i:=d) j
  rw[D]at f
  rw[C]at g
  injection f with f;injection g with g
  rw[f,g];exact J
 rw[u,D]at aC aT;have HJ:=ae u;clear H ha y u x B C l M E;by_cases h5:(d:Int)+1=5
 .have F:((d:Int)+1==5)=true:=by rw[h5];rfl
  have pY:Rn.cZ c t r={r.store (kn c t+d) z with k:={r.k with j:=(d:Int)+1,pc:=18}}:=by rw[hE,ay h5]
  exact abS
 .have F:((d:Int)+1==5)=false:=by rw[dp];exact h5
  have pY:Rn.cZ c t r={r.store (kn c t+d) z with k:={r.k with j:=(d:Int)+1}}:=by rw[hE,au h5];dsimp only;rw[cB]
  exact abS
theorem Ap(H:RN w X p c A n k t m q r s o)(f:RB c N r)(u:c.bw<=1048575)(l:q<=900000)(y:16<=r.k.pc)(z:r.k.pc<=19):Calls prog 108 #[.pointer p] w (cW X p c A n k t m (q+1) (Rn.cZ c t r) w):=by
 rcases(by omega:r.k.pc=16\/r.k.pc=17\/r.k.pc=18\/r.k.pc=19)with h|h|h|h
 .exact EY H f l h
 .exact EZ H f l h
 .exact EW H f u l h
 .exact EX H f l h
theorem E1{x:Int}(f:uP x):AD (rS x) (rO x)=XP (cV x):=by
 have a:0<=rS x/\rS x<1048576:=by have b:=f.1;have c:=f.2;unfold rS;omega
 unfold AD;rw[IntWalk.wrap64_in (2*rS x) aa,IntWalk.wrap64_in (2*rS x+1) aa];rfl
theorem ze{x y:Int}(f:uP x)(i:uP y):BM x y=Mo.behind x y:=by unfold BM Mo.behind;rw[E1 f,E1 i]
theorem U9(H:RN w X p c A n k t m q r s o)(f:q<=900000)(cB:r.k.pc=20):Calls prog 109 #[.pointer p] w (cW X p c A n k t m (q+1) (Rn.ends c t r) w):=by
 have d:=(dZ H.cs.ee H.cs.t0 H.cs.t1).2.2.2.1;have HA:=ae (λa=>jV a H.cs.ee A k n t H.cs.t0 (by have:=H.cs.t1;have:=H.cs.th;omega));have b:=(dZ H.cs.ee H.cs.t0 H.cs.t1).2.1;obtain⟨HZ,HST⟩:=av (λa=>qI a H.cs.ee A k n t H.cs.t0 (by have:=H.cs.t1;have:=H.cs.th;omega)) (λa (h:RN a X p c A n k t m q r s o)=>fz h f (jZ c t) 0 b.1 b.2);have hE:Rn.ends c t r={r.store (jZ c t) 0 with k:={r.k with dK:=0,pc:=if r.k.pj=true then 21 else 22}}:=by unfold Rn.ends;rw[ay cB]
 have HH:=ae H;obtain⟨gq,ij,dA,HFm,bb⟩:=H.cT;have aT:=HH.cx;unfold bI at aT;obtain⟨aC,bC,-⟩:=ag.aF HH.blk;unfold bI at aC;rw[cB]at aC;clear H d b;rcases ZS:r.k.pj with _|_
 .have pY:Rn.ends c t r={r.store (jZ c t) 0 with k:={r.k with dK:=0,pc:=22}}:=by rw[hE,au (by rw[ZS];decide)]
  exact abT
 .have pY:Rn.ends c t r={r.store (jZ c t) 0 with k:={r.k with dK:=0,pc:=21}}:=by rw[hE,ay ZS]
  exact abT
theorem Va(H:RN w X p c A n k t m q r s o)(HB:RB c N r)(hq:q<=900000)(Y:r.k.pc=22):Calls prog 109 #[.pointer p] w (cW X p c A n k t m (q+1) (Rn.ends c t r) w):=by
 have ha:=(dZ H.cs.ee H.cs.t0 H.cs.t1).2.2.2.1;have HA:=ae (λE=>jV E H.cs.ee A k n t H.cs.t0 (by have:=H.cs.t1;have:=H.cs.th;omega));have i:=HB.L.at_ (ea c t);have lF:=ae (λE (h:RN E X p c A n k t m q r s o)=>di h hq _ ha.1);obtain⟨x,hx⟩:∃x,x=aG r.L (ea c t):=⟨_,rfl⟩
 have P:Rn.ends c t r=if Mo.behind x (fj r.k.res)=false then Rn.owned c ({r with k:={r.k with word:=x}}:Rn)else({r with k:={r.k with word:=x}}:Rn).pc 23:=by unfold Rn.ends;rw[au (by omega),au (by omega),ay Y, <-hx]
 rw[<-hx]at lF i;have V:=xW r.k.res;obtain⟨y,hy⟩:∃y,y=fj r.k.res:=⟨_,rfl⟩
 rw[<-hy]at P V;have xn:=ae (λE=>sD E r.k.res.seq r.k.res.cs r.k.res.code r.k.res.value);rw[show zW r.k.res.seq r.k.res.cs r.k.res.code r.k.res.value=fj r.k.res from rfl, <-hy]at xn;have M:=ae (λE=>xR E x y i.1 i.2 V.1 V.2);rw[ze i V]at M;have HH:=ae H;obtain⟨W,Z,j,b,d⟩:=H.cT;have g:=HH.Y.cx;unfold bI at g;obtain⟨a,f,-⟩:=ag.aF HH.Y.blk;unfold bI at a;rw[Y]at a;clear H ha hx hy HB i V;rcases B:Mo.behind x y with _|_
 .have T:Rn.ends c t r=Rn.owned c ({r with k:={r.k with word:=x}}:Rn):=by rw[P];dsimp only;rw[B];rfl
  rw[T];clear P T;rw[B]at M;have aq:=ae (λE mx (h:RN E X p c A n k t mx (q+1) {r with k:={r.k with word:=x}} s o)=>sR h);go_enter func109,ntmps109;go_wp2_with fail;clear a f;go_region_held3(RX w p m 0 0) (exact gw) (first
   |((with_reducible go_fit (HA.Y _));rintro e wA ⟨rfl,u⟩;have mg:=RX.below (by assumption) u;(try have R:=j.Y _ _ (by assumption) u);(try have S:=b.Y _ _ (by assumption) u)))
  all_goals
   obtain⟨C,U⟩:=av R S;clear g d W Z j b u mg R S;have d:=C.Y.lt;obtain⟨a,f,-⟩:=ag.aF C.Y.blk;unfold bI at a;rw[Y]at a;go_wp2_with fail;(with_reducible go_fit (lF.Y _ C.Y));rintro e I ⟨rfl,G,(D:Hid _),J⟩;have uB:=ae (U.Y.trans J);clear J a f d C U;obtain⟨a,f,d⟩:=ag.aF D.Y.blk;unfold bI at a;go_upto_region 12 with fail
   clear a f d;have Q:RN (I.setCell ⟨p,18,none⟩ (.int .u64 x)) X p c A n k t G (q+1) {r with k:={r.k with word:=x}} s o:=RN.leaf D.Y s o {D.Y.tk with} D.Y.op rfl;obtain⟨K,oU⟩:=av Q (((gv.refl I p).set 18 (.int .u64 x)).fr G);clear Q;generalize(I.setCell ⟨p,18,none⟩ (.int .u64 x))=w2 at *;have ir:=ae K.Y;obtain⟨W,Z,j,b,d⟩:=K.Y.cT;have g:=ir.Y.cx;unfold bI at g;dsimp only at g;go_wp2;go_region_held3(RX w2 p G 0 0) (exact gw) (first
    |((with_reducible go_fit (xn.Y _));rintro e wB ⟨rfl,z⟩;have nE:=RX.below (by assumption) z;(try have zK:=j.Y _ _ (by assumption) z);(try have wG:=b.Y _ _ (by assumption) z))
    |((with_reducible go_fit (M.Y _));rintro e wC ⟨rfl,l⟩;have jR:=RX.below (by assumption) l;(try have L:=j.Y _ _ (by assumption) l);(try have O:=b.Y _ _ (by assumption) l)))
   all_goals
    obtain⟨F,HF⟩:=av L ((uB.Y.trans oU.Y).trans O);clear g d L O jR l z zK wG nE;obtain⟨a,f,d⟩:=ag.aF F.Y.blk;unfold bI at a;dsimp only at a;go_wp2_with fail;go_fit (aq.Y _ _ F.Y);rintro e w3 ⟨rfl,(HX:Hid _)⟩;go_wp2;refine bodyPost_ret (v:=.tuple #[]) (by simp[results,results109,go_sem]) rfl ?_;exact cW.then HF.Y ⟨rfl,HX.Y⟩
 .have T:Rn.ends c t r=({r with k:={r.k with word:=x}}:Rn).pc 23:=by rw[P];dsimp only;rw[B];rfl
  rw[T];clear P T;rw[B]at M;go_enter func109,ntmps109;go_wp2_with fail;clear a f;go_region_held3(RX w p m 0 0) (exact gw) (first
   |((with_reducible go_fit (HA.Y _));rintro e wA ⟨rfl,u⟩;have mg:=RX.below (by assumption) u;(try have R:=j.Y _ _ (by assumption) u);(try have S:=b.Y _ _ (by assumption) u)))
  all_goals
   obtain⟨C,U⟩:=av R S;clear g d W Z j b u mg R S;have d:=C.Y.lt;obtain⟨a,f,-⟩:=ag.aF C.Y.blk;unfold bI at a;rw[Y]at a;go_wp2_with fail;(with_reducible go_fit (lF.Y _ C.Y));rintro e I ⟨rfl,G,(D:Hid _),J⟩;have uB:=ae (U.Y.trans J);clear J a f d C U;obtain⟨a,f,d⟩:=ag.aF D.Y.blk;unfold bI at a;go_upto_region 12 with fail
   clear a f d;have Q:RN (I.setCell ⟨p,18,none⟩ (.int .u64 x)) X p c A n k t G (q+1) {r with k:={r.k with word:=x}} s o:=RN.leaf D.Y s o {D.Y.tk with} D.Y.op rfl;obtain⟨K,oU⟩:=av Q (((gv.refl I p).set 18 (.int .u64 x)).fr G);clear Q;generalize(I.setCell ⟨p,18,none⟩ (.int .u64 x))=w2 at *;have ir:=ae K.Y;obtain⟨W,Z,j,b,d⟩:=K.Y.cT;have g:=ir.Y.cx;unfold bI at g;dsimp only at g;go_wp2;go_region_held3(RX w2 p G 0 0) (exact gw) (first
    |((with_reducible go_fit (xn.Y _));rintro e wB ⟨rfl,z⟩;have nE:=RX.below (by assumption) z;(try have zK:=j.Y _ _ (by assumption) z);(try have wG:=b.Y _ _ (by assumption) z))
    |((with_reducible go_fit (M.Y _));rintro e wC ⟨rfl,l⟩;have jR:=RX.below (by assumption) l;(try have L:=j.Y _ _ (by assumption) l);(try have O:=b.Y _ _ (by assumption) l)))
   all_goals
    obtain⟨F,HF⟩:=av L ((uB.Y.trans oU.Y).trans O);clear g d L O jR l z zK wG nE;obtain⟨a,f,d⟩:=ag.aF F.Y.blk;unfold bI at a;dsimp only at a;go_wp2;go_end0;refine cW.then HF.Y ?_;exact cW.leaf F.Y s o {F.Y.tk with} F.Y.op rfl
theorem Vc(H:RN w X p c A n k t m q r s o)(T:RB c N r)(hN:N<=100000)(hq:q<=900000)(F:r.k.pc=23):Calls prog 109 #[.pointer p] w (cW X p c A n k t m (q+1) (Rn.ends c t r) w):=by
 have O:=(dZ H.cs.ee H.cs.t0 H.cs.t1).2.2.2.1;have L:=ae (λj=>jV j H.cs.ee A k n t H.cs.t0 (by have:=H.cs.t1;have:=H.cs.th;omega));have aq:0<=r.k.dK/\r.k.dK<=100000:=by have:=T.k.tr;omega
 obtain⟨y,Q⟩:∃y,y=fj r.k.res:=⟨_,rfl⟩
 obtain⟨x,P⟩:∃x,x=aG r.L (ea c t):=⟨_,rfl⟩
 have E:=ae (λj (h:RN j X p c A n k t m q r s o)=>oT h hq (ea c t) r.k.word y O.1 O.2);have C:Rn.ends c t r=if x=r.k.word\/r.k.dK+1=2 then Rn.owned c ({(if x=r.k.word then r.store (ea c t) y else r)with k:={r.k with dK:=r.k.dK+1,pc:=22}}:Rn)else({(if x=r.k.word then r.store (ea c t) y else r)with k:={r.k with dK:=r.k.dK+1,pc:=22}}:Rn):=by unfold Rn.ends;rw[au (by omega),au (by omega),au (by omega),ay F, <-P, <-Q]
 rw[<-P]at E;have K:=ae (λj=>sD j r.k.res.seq r.k.res.cs r.k.res.code r.k.res.value);rw[show zW r.k.res.seq r.k.res.cs r.k.res.code r.k.res.value=fj r.k.res from rfl, <-Q]at K;have HH:=ae H;obtain⟨z,D,d,a,bb⟩:=H.cT;have aT:=HH.Y.cx;unfold bI at aT;obtain⟨aC,bC,-⟩:=ag.aF HH.Y.blk;unfold bI at aC;rw[F]at aC;clear H O P Q T hN;by_cases f:x=r.k.word
 .have S:(x==r.k.word)=true:=by rw[f];exact beq_self_eq_true _
  rw[ay f,S]at E;have v:Rn.ends c t r=Rn.owned c ({r.store (ea c t) y with k:={r.k with dK:=r.k.dK+1,pc:=22}}:Rn):=by rw[C,ay f,ay (.inl f)]
  rw[v];clear C v f;have HOW:=ae (λj R (h:RN j X p c A n k t R (q+1) ({r.store (ea c t) y with k:={r.k with dK:=r.k.dK+1,pc:=22}}:Rn) s o)=>sR h);go_enter func109,ntmps109;go_wp2_with fail;clear aC bC;go_region_held3(RX w p m 0 0) (exact gw) (first
   |((with_reducible go_fit (L.Y _));rintro e J ⟨rfl,b⟩;have G:=RX.below (by assumption) b;(try have l:=d.Y _ _ (by assumption) b);(try have u:=a.Y _ _ (by assumption) b)))
  all_goals
   obtain⟨i,I⟩:=av l u;clear aT bb z D d a b G l u;have ir:=ae i.Y;obtain⟨z,D,d,a,bb⟩:=i.Y.cT;have aT:=ir.Y.cx;unfold bI at aT;obtain⟨aC,bC,-⟩:=ag.aF i.Y.blk;unfold bI at aC;rw[F]at aC;go_wp2_with fail;clear aC bC;go_region_held3(RX J p m 0 0) (exact gw) (first
    |((with_reducible go_fit (K.Y _));rintro e W ⟨rfl,g⟩;have V:=RX.below (by assumption) g;(try have zK:=d.Y _ _ (by assumption) g);(try have Z:=a.Y _ _ (by assumption) g))
    |((with_reducible go_fit (E.Y _ (by assumption)));rintro e Y ⟨rfl,mC,hC,fC⟩;have U:=RX.acc (by assumption) ir.Y.blk fC (hC.kept fC rfl);have eJ:=cP.trans (by assumption) fC))
   all_goals
    obtain⟨HR,HF⟩:=av hC (I.Y.trans eJ);clear hC fC eJ aT bb;obtain⟨aC,bC,bb⟩:=ag.aF HR.Y.blk;unfold bI at aC;unfold Rn.store at aC;dsimp only at aC;exact abU
 .have S:(x==r.k.word)=false:=by rw[dp];exact f
  rw[au f,S]at E;by_cases B:r.k.dK+1=2
  .have M:(r.k.dK+1==2)=true:=by rw[B];rfl
   have v:Rn.ends c t r=Rn.owned c ({r with k:={r.k with dK:=r.k.dK+1,pc:=22}}:Rn):=by rw[C,au f,ay (.inr B)]
   rw[v];clear C v f B;have HOW:=ae (λj R (h:RN j X p c A n k t R (q+1) ({r with k:={r.k with dK:=r.k.dK+1,pc:=22}}:Rn) s o)=>sR h);go_enter func109,ntmps109;go_wp2_with fail;clear aC bC;go_region_held3(RX w p m 0 0) (exact gw) (first
    |((with_reducible go_fit (L.Y _));rintro e J ⟨rfl,b⟩;have G:=RX.below (by assumption) b;(try have l:=d.Y _ _ (by assumption) b);(try have u:=a.Y _ _ (by assumption) b)))
   all_goals
    obtain⟨i,I⟩:=av l u;clear aT bb z D d a b G l u;have ir:=ae i.Y;obtain⟨z,D,d,a,bb⟩:=i.Y.cT;have aT:=ir.Y.cx;unfold bI at aT;obtain⟨aC,bC,-⟩:=ag.aF i.Y.blk;unfold bI at aC;rw[F]at aC;go_wp2_with fail;clear aC bC;go_region_held3(RX J p m 0 0) (exact gw) (first
     |((with_reducible go_fit (K.Y _));rintro e W ⟨rfl,g⟩;have V:=RX.below (by assumption) g;(try have zK:=d.Y _ _ (by assumption) g);(try have Z:=a.Y _ _ (by assumption) g))
     |((with_reducible go_fit (E.Y _ (by assumption)));rintro e Y ⟨rfl,mC,hC,fC⟩;have U:=RX.acc (by assumption) ir.Y.blk fC (hC.kept fC rfl);have eJ:=cP.trans (by assumption) fC))
    all_goals
     obtain⟨HR,HF⟩:=av hC (I.Y.trans eJ);clear hC fC eJ aT bb;obtain⟨aC,bC,bb⟩:=ag.aF HR.Y.blk;unfold bI at aC;exact abU
  .have M:(r.k.dK+1==2)=false:=by rw[dp];exact B
   have v:Rn.ends c t r=({r with k:={r.k with dK:=r.k.dK+1,pc:=22}}:Rn):=by rw[C,au f,au (λh=>h.elim f B)]
   rw[v];clear C v f B;go_enter func109,ntmps109;go_wp2_with fail;clear aC bC;go_region_held3(RX w p m 0 0) (exact gw) (first
    |((with_reducible go_fit (L.Y _));rintro e J ⟨rfl,b⟩;have G:=RX.below (by assumption) b;(try have l:=d.Y _ _ (by assumption) b);(try have u:=a.Y _ _ (by assumption) b)))
   all_goals
    obtain⟨i,I⟩:=av l u;clear aT bb z D d a b G l u;have ir:=ae i.Y;obtain⟨z,D,d,a,bb⟩:=i.Y.cT;have aT:=ir.Y.cx;unfold bI at aT;obtain⟨aC,bC,-⟩:=ag.aF i.Y.blk;unfold bI at aC;rw[F]at aC;go_wp2_with fail;clear aC bC;go_region_held3(RX J p m 0 0) (exact gw) (first
     |((with_reducible go_fit (K.Y _));rintro e W ⟨rfl,g⟩;have V:=RX.below (by assumption) g;(try have zK:=d.Y _ _ (by assumption) g);(try have Z:=a.Y _ _ (by assumption) g))
     |((with_reducible go_fit (E.Y _ (by assumption)));rintro e Y ⟨rfl,mC,hC,fC⟩;have U:=RX.acc (by assumption) ir.Y.blk fC (hC.kept fC rfl);have eJ:=cP.trans (by assumption) fC))
    all_goals
     obtain⟨HR,HF⟩:=av hC (I.Y.trans eJ);exact Xm
theorem gp{i:Nat}(h:w.cell? ⟨p,i,none⟩=some v):VO w p i=v:=by unfold VO;rw[h];rfl
theorem Vd(H:RN w X p c A n k t m q r s o)(u:RB c N r)(G:N<=100000)(P:q<=900000)(z:r.k.pc=21):Calls prog 109 #[.pointer p] w (cW X p c A n k t m (q+1) (Rn.ends c t r) w):=by
 obtain⟨O,y⟩:=av (λj=>jV j H.cs.ee A k n t H.cs.t0 (by have:=H.cs.t1;have:=H.cs.th;omega)) (λj (h:RN j X p c A n k t m q r s o)=>di h P 1 af);have f:=(u.L.at_ 1).1;have l:=u.g.1;have F:Rn.ends c t r={r with k:={r.k with aJ:=tB r.k.aJ r.k.base (aG r.L 1),pc:=22}}:=by unfold Rn.ends;rw[au aa,ay z]
 rw[F];obtain⟨x,I⟩:=aw (aG r.L 1);rw[<-I]at y f l ⊢;have U:IntKind.i64.wrap x=x:=kD f aa;have HAW:=ae (λj T (h:RN j X p c A n k t T (q+1) r s o)=>OI j r.k.aJ s.fr.A s.fr.c s.ol.A s.ol.c (h.pls u.k.aJ G) r.k.base.ix r.k.base.tag x);unfold mo at HAW;obtain⟨P1,D⟩:=aw (tB r.k.aJ r.k.base x);rw[show tB r.k.aJ ⟨r.k.base.ix,r.k.base.tag⟩ x=tB r.k.aJ r.k.base x from rfl, <-D]at HAW;rw[<-D];have HH:=ae H;obtain⟨E,J,B,d,bb⟩:=H.cT;have aT:=HH.cx;unfold bI at aT;obtain⟨aC,bC,-⟩:=ag.aF HH.blk;unfold bI at aC;rw[z]at aC;clear H F I u f l G D;go_enter func109,ntmps109;go_wp2_with fail;clear aC bC;go_region_held3(RX w p m 0 0) (exact gw) (first
  |((with_reducible go_fit (O.Y _));rintro e g ⟨rfl,v⟩;have R:=RX.below aN v;(try have L:=B.Y _ _ aN v);(try have M:=d.Y _ _ aN v)))
 all_goals
  obtain⟨C,sW⟩:=av L M;clear aT bb E J B d v R L M;have ir:=ae C;obtain⟨E,J,B,d,bb⟩:=C.cT;obtain⟨aT,q8,kf,iM⟩:=ir.FH 22 27;unfold bI at aT;obtain⟨aC,bC,-⟩:=ag.aF C.blk;unfold bI at aC;rw[z]at aC;go_wp2_with fail;have Xo:g.drew.cell? ⟨p,22,none⟩=some (.int .i64 r.k.aJ.own.ix):=aC 22;have Xq:g.drew.cell? ⟨p,23,none⟩=some (.int .i64 r.k.aJ.own.tag):=aC 23;have Xr:g.drew.cell? ⟨p,24,none⟩=some (.slice s.fr.A r.k.aJ.free.length s.fr.c):=aC 24;have Xs:g.drew.cell? ⟨p,25,none⟩=some (.slice s.ol.A r.k.aJ.old.length s.ol.c):=aC 25;have Xt:g.drew.cell? ⟨p,26,none⟩=some (.int .i64 r.k.aJ.spent):=aC 26;clear aC bC;refine wp_region_held_drew (S:=(RX g p m 22 27)) (by kernel_rfl) (RX.start ir.blk _ _ _) (λhHeld=>?_);refine aU 0 aN ?_;(try simp only[aL]);refine aU 1 aN ?_;(try simp only[aL]);refine aU 2 aN ?_;(try simp only[aL]);refine aU 3 aN ?_;(try simp only[aL]);refine aU 4 aN ?_;(try simp only[aL]);refine aU 6 aN ?_;(try simp only[aL]);refine aU 7 aN ?_;(try simp only[aL]);refine aU 8 aN ?_;(try simp only[aL]);refine aU 9 aN ?_;(try simp only[aL]);refine aU 10 aN ?_;(try simp only[aL]);refine aU 11 aN ?_;(try simp only[aL]);refine wpAnyH_ready (rs:=[5,12]) (by kernel_rfl) aA ?_;refine(AllReadyH.cons (o:=⟨some 55,_,_,_,_,_⟩) rfl (λK hK=>?_) (AllReadyH.cons (o:=⟨some 62,_,_,_,_,_⟩) rfl (λK hK=>?_) AllReadyH.nil))
  .
   go_simp
   refine hK.Y _ _ gw (λhHeld=>?_)
   clear hK K
   (try simp only[aL])
   refine eQ 12 (λK hK=>?_)
   go_simp
   ((with_reducible go_fit (y.Y _ aN));rintro e a ⟨rfl,mC,hC,fC⟩;have Q:=RX.acc aN ir.Y.blk fC (hC.kept fC rfl);have eJ:=cP.trans aN fC;have J5:=λi=>ag.cell hC.blk i;unfold bI at J5;have d22:a.cell? ⟨p,22,none⟩=some (.int .i64 r.k.aJ.own.ix):=J5 22;have d23:a.cell? ⟨p,23,none⟩=some (.int .i64 r.k.aJ.own.tag):=J5 23;have d24:a.cell? ⟨p,24,none⟩=some (.slice s.fr.A r.k.aJ.free.length s.fr.c):=J5 24;have d25:a.cell? ⟨p,25,none⟩=some (.slice s.ol.A r.k.aJ.old.length s.ol.c):=J5 25;have d26:a.cell? ⟨p,26,none⟩=some (.int .i64 r.k.aJ.spent):=J5 26)
   go_wp2_with fail
   refine hK.Y _ _ gw (λhHeld=>?_)
   clear hK K
   (try simp only[aL])
   refine aU 13 aN ?_
   exact abV
  .
   go_simp
   ((with_reducible go_fit (y.Y _ aN));rintro e a ⟨rfl,mC,hC,fC⟩;have Q:=RX.acc aN ir.Y.blk fC (hC.kept fC rfl);have eJ:=cP.trans aN fC;have J5:=λi=>ag.cell hC.blk i;unfold bI at J5;have d22:a.cell? ⟨p,22,none⟩=some (.int .i64 r.k.aJ.own.ix):=J5 22;have d23:a.cell? ⟨p,23,none⟩=some (.int .i64 r.k.aJ.own.tag):=J5 23;have d24:a.cell? ⟨p,24,none⟩=some (.slice s.fr.A r.k.aJ.free.length s.fr.c):=J5 24;have d25:a.cell? ⟨p,25,none⟩=some (.slice s.ol.A r.k.aJ.old.length s.ol.c):=J5 25;have d26:a.cell? ⟨p,26,none⟩=some (.int .i64 r.k.aJ.spent):=J5 26)
   go_wp2_with fail
   refine hK.Y _ _ gw (λhHeld=>?_)
   clear hK K
   (try simp only[aL])
   refine aU 13 aN ?_
   (try simp only[aL])
   refine eQ 5 (λK hK=>?_)
   go_simp
   refine hK.Y _ _ gw (λhHeld=>?_)
   clear hK K
   exact abV
theorem MT(H:RN w X p c A n k t m q r s o)(l:RB c N r)(u:N<=100000)(f:q<=900000)(y:20<=r.k.pc)(z:r.k.pc<=23):Calls prog 109 #[.pointer p] w (cW X p c A n k t m (q+1) (Rn.ends c t r) w):=by
 rcases(by omega:r.k.pc=20\/r.k.pc=21\/r.k.pc=22\/r.k.pc=23)with h|h|h|h
 .exact U9 H f h
 .exact Vd H l u f h
 .exact Va H l f h
 .exact Vc H l u f h
theorem MU(H:RN w X p c A n k t m q r s o)(y:RB c N r)(hown:0<=r.k.aJ.own.ix/\r.k.aJ.own.ix<bX c)(E:q<=900000)(i:r.k.pc=13):Calls prog 107 #[.pointer p] w (cW X p c A n k t m (q+1) (Rn.writes c t r) w):=by
 have z:=y.k.aJ.own;unfold vP at z;have f:=lO H.cs.ee hown.1 hown.2;have F:=H.cs.FF;have u:=ae (λv (h:RN v X p c A n k t m q r s o)=>jX h r.k.aJ.own.ix r.k.aJ.own.tag aa aa);obtain⟨a,l⟩:=aw (bV c r.k.aJ.own.ix);rw[<-l]at u f;have D:IntKind.u64.wrap r.k.aJ.own.tag=r.k.aJ.own.tag:=Br aa aa;have g:=ae (λv (h:RN v X p c A n k t m q r s o)=>fz h E a r.k.aJ.own.tag f.1.1 f.1.2);have B:Rn.writes c t r=(r.store a r.k.aJ.own.tag).pc 14:=by unfold Rn.writes;dsimp only;rw[ay i, <-l]
 rw[B];have b:=ae H;have bb:=H.lt;obtain⟨aC,bC,-⟩:=ag.aF b.blk;unfold bI at aC;rw[i]at aC;clear H B y hown z f l F;go_enter func107,ntmps107;go_wp2_with fail;go_fit (u _ b);rintro e J ⟨rfl,j⟩;obtain⟨d,C⟩:=av (b.more j) (cP.ext j p m);clear j aC bC bb u;obtain⟨aC,bC,-⟩:=ag.aF d.blk;unfold bI at aC;rw[i]at aC;have bb:=d.lt;go_wp2_with fail;go_fit (g _ d);rintro e I ⟨rfl,G,(HR:Hid _),x⟩;have HF:=ae (C.trans x);clear x aC bC bb d C b;exact ZQ
theorem MV(H:RN w X p c A n k t m q r s o)(f:RB c N r)(hown:0<=r.k.aJ.own.ix/\r.k.aJ.own.ix<bX c)(E:q<=900000)(cB:r.k.pc=14):Calls prog 107 #[.pointer p] w (cW X p c A n k t m (q+1) (Rn.writes c t r) w):=by
 have v:=f.k.aJ.own;unfold vP at v;have u:=lO H.cs.ee hown.1 hown.2;have F:=H.cs.FF;have nV:=ae (λwx (h:RN wx X p c A n k t m q r s o)=>jX h r.k.aJ.own.ix r.k.aJ.own.tag aa aa);obtain⟨a,e⟩:=aw (bV c r.k.aJ.own.ix);rw[<-e]at nV u;have y:(r.k.next.length:Int)=bA c/\r.k.i<bA c:=by have h:=f.f.a;unfold nh at h;have h1:=h.2.2.2.2.1 aa;have h2:=h.2.2.2.2.2.1 aa;exact⟨h1,h2⟩
 have j:=size_le H.cs.ee;obtain⟨jn,g⟩:∃jn:Nat,r.k.i=jn:=⟨r.k.i.toNat,by have:=f.k.i.1;omega⟩
 have hlt:jn<r.k.next.length:=aa;have D:r.k.next.length<=100000:=aa;obtain⟨ad,z,x,l,B⟩:=H.tk.nx.1.at_ (i:=jn) hlt;have h3:=u.2 jn aa aa;have G:IntKind.i64.wrap (a+1)=a+1:=kD aa aa;have I:IntKind.i64.wrap (a+1+jn)=a+1+jn:=kD aa aa;have d:aG r.k.next jn=z:=by unfold aG;rw[au aa,fR,ew,l];rfl
 have HST:=ae (λwx (h:RN wx X p c A n k t m q r s o)=>fz h E (a+1+jn) z h3.1 h3.2);have hE:Rn.writes c t r=if(jn:Int)+1=(r.k.next.length:Int)then({r.store (a+1+jn) z with k:={r.k with i:=(jn:Int)+1}}:Rn).pc 15 else{r.store (a+1+jn) z with k:={r.k with i:=(jn:Int)+1}}:=by unfold Rn.writes;dsimp only;rw[au aa,ay cB,g,d, <-e]
 have HH:=ae H;have bb:=H.lt;obtain⟨aC,bC,-⟩:=ag.aF HH.blk;unfold bI at aC;rw[cB]at aC;obtain⟨HJ,HA,HZ⟩:=aS g x l;clear H f hown v u e F y j g x l B h3 d;by_cases h5:(jn:Int)+1=(r.k.next.length:Int)
 .have C:((jn:Int)+1==(r.k.next.length:Int))=true:=by rw[h5];exact beq_self_eq_true _
  have pY:Rn.writes c t r=({r.store (a+1+jn) z with k:={r.k with i:=(jn:Int)+1,pc:=15}}:Rn):=by rw[hE,ay h5];rfl
  exact abW
 .have C:((jn:Int)+1==(r.k.next.length:Int))=false:=by rw[dp];exact h5
  have pY:Rn.writes c t r=({r.store (a+1+jn) z with k:={r.k with i:=(jn:Int)+1}}:Rn):=by rw[hE,au h5]
  exact abW
theorem IB(H:RN w X p c A n k t m q r s o)(y:RB c N r)(hown:0<=r.k.aJ.own.ix/\r.k.aJ.own.ix<bX c)(hN:N<=100000)(Y:q<=900000)(z:r.k.pc=15)(l:aG r.L 0≠cm r.k.base):Calls prog 107 #[.pointer p] w (cW X p c A n k t m (q+1) (Rn.writes c t r) w):=by
 have L:=y.k.aJ.own;unfold vP at L;have R:=lO H.cs.ee hown.1 hown.2;have Z:=H.cs.FF;have F:=ae (λb (h:RN b X p c A n k t m q r s o)=>jX h r.k.aJ.own.ix r.k.aJ.own.tag (by omega) (by omega));obtain⟨a,O⟩:∃a,a=bV c r.k.aJ.own.ix:=⟨_,rfl⟩
 rw[<-O]at F R;have P:=y.k.round;have V:=(lO H.cs.ee hown.1 hown.2).1;have Q:=ae (λb (h:RN b X p c A n k t m q r s o)=>oT h Y 0 (cm r.k.base) (cm r.k.aJ.own) (by decide) (by omega));rw[au l,show(aG r.L 0==cm r.k.base)=false by rw[dp];exact l]at Q;have M:Rn.writes c t r=Rn.fail c r:=by unfold Rn.writes;dsimp only;rw[au (by omega),au (by omega),ay z,ay l]
 rw[M];have S:=ae (λb mx (h:RN b X p c A n k t mx (q+1) r s o)=>vy h P.1 (by omega));have lW:Hid (∀b,Calls prog 97 #[.agg #[r.k.base.ix,r.k.base.tag]] b λe G=>e=.returned (.int .u64 (cm r.k.base))/\Below b b G):=λb=>ia b _ _;have tv:Hid (∀b,Calls prog 97 #[.agg #[r.k.aJ.own.ix,r.k.aJ.own.tag]] b λe G=>e=.returned (.int .u64 (cm r.k.aJ.own))/\Below b b G):=λb=>ia b _ _;have HH:=ae H;have i:=H.lt;obtain⟨d,g,-⟩:=ag.aF HH.Y.blk;unfold bI at d;rw[z]at d;clear H M y hown L R O Z l P V;go_enter func107,ntmps107;go_wp2_with fail;(with_reducible go_fit (F.Y _ HH.Y));rintro e wA ⟨rfl,x⟩;obtain⟨E,sW⟩:=av (HH.Y.more x) (cP.ext x p m);clear x d g i F;have ir:=ae E.Y;obtain⟨gq,ij,K,f,i⟩:=E.Y.cT;have J:=ir.Y.cx;unfold bI at J;obtain⟨d,g,-⟩:=ag.aF E.Y.blk;unfold bI at d;rw[z]at d;go_wp2_with fail;clear d g;go_region_held3(RX wA p m 0 0) (exact gw) (first
  |((with_reducible go_fit (lW.Y _));rintro e wB ⟨rfl,B⟩;have nE:=RX.below (by assumption) B;(try have zK:=K.Y _ _ (by assumption) B);(try have wG:=f.Y _ _ (by assumption) B))
  |((with_reducible go_fit (tv.Y _));rintro e wC ⟨rfl,u⟩;have W:=RX.below (by assumption) u;(try have Hq:=K.Y _ _ (by assumption) u);(try have C:=f.Y _ _ (by assumption) u))
  |((with_reducible go_fit (Q.Y _ (by assumption)));rintro e wC ⟨rfl,mC,D,j⟩;have W:=RX.acc (by assumption) ir.Y.blk j (D.kept j rfl);have C:=cP.trans (by assumption) j))
 all_goals
  obtain⟨I,T⟩:=av D (sW.Y.trans C);clear D j C J i;obtain⟨d,g,i⟩:=ag.aF I.Y.blk;unfold bI at d;go_wp2_with fail;go_fit (S.Y _ _ I.Y);rintro e w3 ⟨rfl,(U:Hid _)⟩;go_wp2;refine bodyPost_ret (v:=.tuple #[]) (by simp[results,results107,go_sem]) rfl ?_;exact cW.then T.Y ⟨rfl,U.Y⟩
end
theorem MW(f:List Mo.Op)(B:Option Addr)(i m:Nat)(l:i=f.length)(F:i<=1000000){S:Nat->Prop}(u:∀b,S b->b<w.heap.size)(z:rN w S B f) :
 Calls prog 52 #[.slice B i m] w λe w'=>∃h d,e=.returned (.slice h i d)/\i<=d/\Below w w w'/\∀c:Nat->Prop,(∀b,S b->c b)->(∀b,w.heap.size<=b->b<w'.heap.size->c b)->rN w' c h f:=by
 obtain⟨rows,j,q,r⟩:=z.1
 obtain⟨L,C,D,E⟩:=yQ rows f j r
 subst D
 go_fit (xU w B m (L.map (jJ wE iE jP)) (n:=i) (by rw[<-j]at l;exact l) F q)
 rintro e H ⟨k,d1,rfl,o,p,a⟩
 have g:=aH.opX (aH.rows.1 p) (λx A=>(E x A).same (λb t=>a.block b (u b t)))
 refine⟨k,d1,rfl,o,a,λc v y=>⟨?_,?_⟩⟩
 .rw[<-C];exact(g.mono jz v).GO
 .intro G s _;subst s;exact y _ (aD.lt g rfl).1 (aD.lt g rfl).2
section
variable{X:Nat->Prop}{m:Mm}{q:Nat}{o:Sl}{N:Int}
theorem ID(H:RN w X p c A n k t m q r s o)(E:RB c N r)(hown:0<=r.k.aJ.own.ix/\r.k.aJ.own.ix<bX c)(hN:N<=100000)(hq:q<=900000)(cB:r.k.pc=15)(R:aG r.L 0=cm r.k.base):Calls prog 107 #[.pointer p] w (cW X p c A n k t m (q+1) (Rn.writes c t r) w):=by
 have G:=E.k.aJ.own;unfold vP at G;have wM:=lO H.cs.ee hown.1 hown.2;have kF:=H.cs.FF;have nV:=ae (λf (h:RN f X p c A n k t m q r s o)=>jX h r.k.aJ.own.ix r.k.aJ.own.tag (by omega) (by omega));obtain⟨a,ha⟩:∃a,a=bV c r.k.aJ.own.ix:=⟨_,rfl⟩
 rw[<-ha]at nV wM;have hlen:(r.k.next.length:Int)=bA c:=by have h:=E.f.a;unfold nh at h;exact h.2.2.2.2.1 (by omega)
 have hu:=E.k.nxt;have VU:=(lO H.cs.ee hown.1 hown.2).1;have uE:=ae (λf (h:RN f X p c A n k t m q r s o)=>oT h hq 0 (cm r.k.base) (cm r.k.aJ.own) (by decide) (by omega));rw[ay R,show(aG r.L 0==cm r.k.base)=true by rw[R];exact beq_self_eq_true _]at uE;obtain⟨CV,P⟩:=av (λf mx (h:RN f X p c A n k t mx (q+1) (r.store 0 (cm r.k.aJ.own)) s o)=>vz h r.k.next s.nx.A r.k.next.length s.nx.c rfl hlen hu h.tk.nx.1 t h.cs.t0 h.cs.t1) (λf mx (h:RN f X p c A n k t mx (q+1) {r.store 0 (cm r.k.aJ.own)with k:={r.k with pj:=true,res:=iT c r.k.next t}} s o)=>AK f r.k.aJ s.fr.A s.fr.c s.ol.A s.ol.c (h.pls E.k.aJ hN));have hE:Rn.writes c t r={r with L:=Mo.setAt r.L 0 (cm r.k.aJ.own),pj:=true,ops:=r.k.found,k:={r.k with pj:=true,res:=iT c r.k.next t,aJ:=gX r.k.aJ,pc:=20}}:=by unfold Rn.writes;dsimp only;rw[au (by omega),au (by omega),ay cB,au (λh=>h R)]
 rw[hE];obtain⟨y,hy⟩:∃y,y=iT c r.k.next t:=⟨_,rfl⟩
 rw[<-hy]at CV P ⊢;obtain⟨g,sF⟩:∃g,g=gX r.k.aJ:=⟨_,rfl⟩
 rw[<-sF]at P ⊢;unfold wU mo at P;have Ez:r.k.found.length<=1000000:=by have:=E.k.found;omega
 have a6:=ae Ez;clear Ez;have lW:Hid (∀f,Calls prog 97 #[.agg #[r.k.base.ix,r.k.base.tag]] f λe w'=>e=.returned (.int .u64 (cm r.k.base))/\Below f f w'):=λf=>ia f _ _;have tv:Hid (∀f,Calls prog 97 #[.agg #[r.k.aJ.own.ix,r.k.aJ.own.tag]] f λe w'=>e=.returned (.int .u64 (cm r.k.aJ.own))/\Below f f w'):=λf=>ia f _ _;have HH:=ae H;have i:=H.lt;obtain⟨d,l,-⟩:=ag.aF HH.Y.blk;unfold bI at d;rw[cB]at d;clear H hE E hown G wM ha kF R VU hy sF hlen hu hN;go_enter func107,ntmps107;go_wp2_with fail;(with_reducible go_fit (nV.Y _ HH.Y));rintro e wA ⟨rfl,cD⟩;obtain⟨ig,sW⟩:=av (HH.Y.more cD) (cP.ext cD p m);clear cD d l i nV;have ir:=ae ig.Y;obtain⟨gq,ij,F,j,i⟩:=ig.Y.cT;have D:=ir.Y.cx;unfold bI at D;obtain⟨d,l,-⟩:=ag.aF ig.Y.blk;unfold bI at d;rw[cB]at d;go_wp2_with fail;clear d l;go_region_held3(RX wA p m 0 0) (exact gw) (first
  |((with_reducible go_fit (lW.Y _));rintro e wB ⟨rfl,eG⟩;have nE:=RX.below (by assumption) eG;(try have zK:=F.Y _ _ (by assumption) eG);(try have wG:=j.Y _ _ (by assumption) eG))
  |((with_reducible go_fit (tv.Y _));rintro e wC ⟨rfl,W⟩;have jR:=RX.below (by assumption) W;(try have Hq:=F.Y _ _ (by assumption) W);(try have eJ:=j.Y _ _ (by assumption) W))
  |((with_reducible go_fit (uE.Y _ (by assumption)));rintro e wC ⟨rfl,u,hC,Q⟩;have jR:=RX.acc (by assumption) ir.Y.blk Q (hC.kept Q rfl);have eJ:=cP.trans (by assumption) Q))
 all_goals
  obtain⟨O,HF⟩:=av hC (sW.Y.trans eJ);clear hC Q eJ D i gq ij F j;obtain⟨d,l,i⟩:=ag.aF O.Y.blk;unfold bI at d;go_wp2_with fail;clear d l i;have Sg:=ae O.Y;obtain⟨gq,ij,F,j,i⟩:=O.Y.cT;obtain⟨D,q8,kf,iM⟩:=Sg.Y.FH 27 32;unfold bI Rn.store at D;dsimp only at D;go_region_held3(RX wC p u 27 32) (with_reducible(repeat(first|exact RX.start Sg.Y.blk _ _ _|exact gw|refine RX.alloc ?_ _|refine RX.set ?_ (by decide) _))) (first
   |((with_reducible go_fit (CV.Y _ _ (by assumption)));rintro e wD ⟨rfl,T⟩;have J4:=RX.below (by assumption) T;(try have Re:=F.Y _ _ (by assumption) T);(try have zb:=j.Y _ _ (by assumption) T)))
  obtain⟨gN,rW⟩:=av Re (HF.Y.trans zb);clear D q8 kf iM i T J4 Re zb gq ij F j HF O Sg;have I:RN (((((wD.setCell ⟨p,31,none⟩ true).setCell ⟨p,27,none⟩ y.seq).setCell ⟨p,28,none⟩ y.cs).setCell ⟨p,29,none⟩ y.code).setCell ⟨p,30,none⟩ y.value) X p c A n k t u (q+1) {r.store 0 (cm r.k.aJ.own)with k:={r.k with pj:=true,res:=y}} s o:=RN.leaf gN.Y s o {gN.Y.tk with} gN.Y.op rfl;obtain⟨L,Y⟩:=av I (((((((gv.refl wD p).set 31 true).set 27 y.seq).set 28 y.cs).set 29 y.code).set 30 y.value).fr u);clear I;generalize(((((wD.setCell ⟨p,31,none⟩ true).setCell ⟨p,27,none⟩ y.seq).setCell ⟨p,28,none⟩ y.cs).setCell ⟨p,29,none⟩ y.code).setCell ⟨p,30,none⟩ y.value)=w4 at *;obtain⟨d,l,i⟩:=ag.aF L.Y.blk;unfold bI Rn.store at d;dsimp only at d;go_wp2_with fail;(with_reducible go_fit (P.Y _ u L.Y));rintro e K ⟨v,rfl,x,C,z,B,rfl,G,gA,dJ⟩;obtain⟨S,oc⟩:=av (L.Y.more dJ) ((rW.Y.trans Y.Y).trans (cP.ext dJ p u));have rJ:Hid (oh K (Im K X p u) {r.k with pj:=true,res:=y,aJ:=g} {s with fr:=⟨x,C⟩,ol:=⟨z,B⟩}):=wU.tk S.Y.tk G gA (λb h0 h1=>Im.fresh L.Y h0 h1) _ rfl;clear G gA dJ d l i;obtain⟨d,l,i⟩:=ag.aF S.Y.blk;unfold bI Rn.store at d;dsimp only at d;go_upto_region 15 with fail
  clear d l i;have J:RN (((((K.setCell ⟨p,22,none⟩ g.own.ix).setCell ⟨p,23,none⟩ g.own.tag).setCell ⟨p,24,none⟩ (.slice x g.free.length C)).setCell ⟨p,25,none⟩ (.slice z g.old.length B)).setCell ⟨p,26,none⟩ g.spent) X p c A n k t u (q+1) {r.store 0 (cm r.k.aJ.own)with k:={r.k with pj:=true,res:=y,aJ:=g}} {s with fr:=⟨x,C⟩,ol:=⟨z,B⟩} o:=RN.leaf S.Y {s with fr:=⟨x,C⟩,ol:=⟨z,B⟩} o {rJ.Y with} S.Y.op rfl;obtain⟨M,Z⟩:=av J (((((((gv.refl K p).set 22 g.own.ix).set 23 g.own.tag).set 24 (.slice x g.free.length C)).set 25 (.slice z g.old.length B)).set 26 g.spent).fr u);clear J;generalize(((((K.setCell ⟨p,22,none⟩ g.own.ix).setCell ⟨p,23,none⟩ g.own.tag).setCell ⟨p,24,none⟩ (.slice x g.free.length C)).setCell ⟨p,25,none⟩ (.slice z g.old.length B)).setCell ⟨p,26,none⟩ g.spent)=w6 at *;obtain⟨d,l,i⟩:=ag.aF M.Y.blk;unfold bI Rn.store at d;dsimp only at d;have aq:=ae (MW r.k.found s.fo.A r.k.found.length s.fo.c rfl a6.Y (λb hb=>hb.1) M.Y.tk.fo);go_wp2_with fail;(with_reducible go_fit aq.Y);rintro e w7 ⟨B2,d2,rfl,(qj:Hid _),U,E3⟩;obtain⟨V,vE⟩:=av (M.Y.more U) ((oc.Y.trans Z.Y).trans (cP.ext U p u));have Bu:Hid (rN w7 (Im w7 X p u) B2 r.k.found):=E3 _ (λb hb=>(cP.ext U p u).im hb) (λb h0 h1=>Im.fresh M.Y h0 h1);clear U E3 d l i;obtain⟨d,l,i⟩:=ag.aF V.Y.blk;unfold bI Rn.store at d;dsimp only at d;go_wp2;go_end0;refine cW.then vE.Y ?_;exact cW.leaf V.Y {s with fr:=⟨x,C⟩,ol:=⟨z,B⟩} ⟨B2,d2⟩ {V.Y.tk with} Bu.Y rfl
theorem E4(H:RN w X p c A n k t m q r s o)(f:RB c N r)(hown:0<=r.k.aJ.own.ix/\r.k.aJ.own.ix<bX c)(u:N<=100000)(l:q<=900000)(y:13<=r.k.pc)(z:r.k.pc<=15):Calls prog 107 #[.pointer p] w (cW X p c A n k t m (q+1) (Rn.writes c t r) w):=by
 rcases(by omega:r.k.pc=13\/r.k.pc=14\/r.k.pc=15)with h|h|h
 .exact MU H f hown l h
 .exact MV H f hown l h
 .by_cases a:aG r.L 0=cm r.k.base
  .exact ID H f hown u l h a
  .exact IB H f hown u l h a
end
theorem jv.none_{m:Nat}{P:ux α}{S:Nat->Prop}(f:0<m)(h:jv m P w S none xs):xs.length=0:=by
 rcases Nat.eq_zero_or_pos xs.length with e|e
 .exact e
 .obtain⟨b,_,_,a,_⟩:=jv.at_ f h e;cases a
theorem cN.FU{m:Nat}{f:α->List Value}(l:∀c,(f c).length=m)(q:0<m)(h:cN w f A xs){i:Addr}(u:A=some i)(y:xs≠[]):i.block<w.heap.size:=by
 obtain⟨d,c,a,_,e⟩:=cN.at_ l q h (List.length_pos_iff.2 y);rw[u]at a;injection a with a
 subst a;have b:=e 0 _ (cq (by rw[l];exact q));rw[Nat.zero_mul,add_zero,add_zero]at b;exact bc b
theorem Rg(l:List Int):qK l=(jr l).1.kind/\qA l=(jr l).1.arg/\qV l=(jr l).1.value/\qD l=(jr l).1.dflt/\qC l=(jr l).1.cases/\qP l=(jr l).2.1/\jK l=(jr l).2.2:=by
 have a:jK l=decide (l.length=5/\l.getD 0 0/256%16<=3/\l.getD 4 0<=4294967295/\kg ⟨l.getD 0 0%256,l.getD 0 0/65536%65536,l.getD 0 0/4294967296,l.getD 0 0/4096%2==1,((l.drop 1).take (l.getD 0 0/256%16).toNat).map Mo.rT⟩ (l.getD 4 0)=l):=by unfold jK;rw[<-Bt,Bool.eq_iff_iff];simp only[eT,eI,beq_iff_eq,and_assoc];rfl
 unfold qK qA qV qD qC qP jr;rw[a];dsimp only;split
 .rename_i h;have h:=of_decide_eq_true h;rw[ay h];exact⟨rfl,rfl,rfl,rfl,rfl,rfl,cg h⟩
 .rename_i h;have h:¬_:=λk=>h (cg k);rw[au h];exact⟨rfl,rfl,rfl,rfl,rfl,rfl,bF h⟩
theorem MX(w:World)(A:Option Addr)(c:Nat)(l:List Int)(y:l.length<=5)(u:l.length<=c)(q:fV l)(m:bD w .u64 A l) :
 Calls prog 149 #[.slice A l.length c] w (aaA (jr l).1.kind (jr l).1.arg (jr l).1.value (jr l).1.dflt (jr l).1.cases (jr l).2.1 (jr l).2.2 w):=by
 have h:=BU w A c l aa u q m
 obtain⟨a,b,d,e,f,g,i⟩:=Rg l
 unfold z7 at h
 rw[a,b,d,e,f,g,i]at h
 exact h
theorem MY(a b c d:Int)(w:World):(Instr.field 64 (.agg #[a,b,c,d]) 0).run prog w=.ok a w:=by kernel_rfl
theorem sX{P:Program}{o:Oper}{K:Act->World->Prop}{Q:Exit->Act->World->Prop}{E:Prop}(C:o.guard=none)(s x:Operand)(t:TypeId)(Y:o.op=.call {callee:=.builtin .append,args:=#[s,x],argTypes:=#[t,t]})(e:TypeId)(ht:P.underlying t=some (.slice e)){z:Value}(X:(P.info? e).map (λi=>(i.zero,i.size,i.bytes))=some (some z,8,80))(hz:z.cells.size=8){S:Nat->Prop}(A:Option Addr)(n:Nat)(H:List Mo.Op)(hs:a.eval s=.slice A n n)(F:n=H.length)(Z:jv 8 FD w S A H)(B:Addr)(c:Nat)(y:yP)(hx:a.eval x=.slice (some B) 1 c)(O:Rd w (some B) (wE y))(f:n<=1000000)(T:∀b,S b->b<w.heap.size)(hy:eo w S bj y.B y.op.aQ.cases)(h:∀l p w',n+1<=p->(∀m:Nat->Prop,(∀b,S b->m b)->(∀b,w.heap.size<=b->b<w'.heap.size->m b)->rN w' m l (H++[y.op]))->Below w w w'->K (a.put o.dst (.slice l (n+1) p)) w') :
 if Region.wanted o (yielded ops a.tmps)=true then Oper.wp P o a w K Q else E:=by
 obtain⟨i,kK,v,D,G⟩:=info_parts X
 obtain⟨rows,q,M,N⟩:=Z
 have W:(rows.flatMap dF).length=n*8:=by rw[jG bY,q,F]
 refine step_append_grows C s x t Y e i z 8 80 ht kK v D G hz af A n n (rows.flatMap dF) hs (λe=>?_) W (λb f j u r=>?_) B 1 c (wE y) hx rfl (λj u r=>?_) (jP y) aa (by unfold maxLen;omega) aa (λv' w' hown V=>?_)
 .subst e;have h0:=jv.none_ af ⟨rows,q,M,N⟩;omega
 .obtain⟨I,d,g⟩:=M j u r;rw[f]at d;injection d with d
  subst d;exact g
 .obtain⟨I,d,g⟩:=O j u r;injection d with d
  subst d;exact g
 .have R:aH w' w e 8 dF v' (rows++[jJ wE iE jP y]):=by
   unfold aH;rw[fM,List.flatMap_append,q, <-F];exact hown
  have f:=(Below.refl _ w).grown V (aR _) (λb f=>by cases f)
  have k:Sm S w w':=λb h=>f.block b (T b h)
  have J:=aD.app jz q N k R (x:=y.op) ⟨y.B,y.d,rfl,hy.same k⟩
  obtain⟨l,p,rfl,L,kB⟩:=J.rdX
  rw[fM,iw, <-F]at L ⊢
  refine h l p w' L (λm d g=>⟨kB.mono jz d,λI U _=>?_⟩) f
  subst U
  have:=aD.lt J rfl
  exact g _ this.1 this.2
section
variable{X:Nat->Prop}{m:Mm}{q:Nat}{o:Sl}{N:Int}
theorem Rh(H:RN w X p c A n k t m q r s o)(l:RB c N r)(hq:q<=900000)(O:r.k.pc=8):Calls prog 105 #[.pointer p] w (cW X p c A n k t m (q+1) (Rn.fZ c r) w):=by
 have B:=l.k.i.1;have xA:=l.f.a;unfold nh at xA;have Y:r.k.i<c.threads:=by omega
 have ko:=H.cs.th;have hlen:(r.k.buf.length:Int)=bA c:=by omega
 have ha:=(dZ H.cs.ee B Y).1;have HA:=ae (λb=>yh b H.cs.ee A k n r.k.i B (by omega));have hu:=l.k.buf;have f:=l.L.at_ (pg c r.k.i);have lF:=ae (λb (h:RN b X p c A n k t m q r s o)=>di h hq _ ha.1);obtain⟨x,S⟩:∃x,x=aG r.L (pg c r.k.i):=⟨_,rfl⟩
 obtain⟨y,T⟩:∃y,y=iT c r.k.buf r.k.i:=⟨_,rfl⟩
 have hE:Rn.fZ c r=if 1048575<x\/x<=y.seq then Rn.gg c {r with k:={r.k with word:=x}}else{r with k:={r.k with word:=x,j:=0,args:=[],pc:=9}}:=by unfold Rn.fZ;rw[ay O, <-S, <-T]
 rw[<-S]at lF f;have CV:=ae (λb V (h:RN b X p c A n k t V (q+1) {r with k:={r.k with word:=x}} s o)=>vz h r.k.buf s.bf.A r.k.buf.length s.bf.c rfl hlen hu h.tk.bf.1 r.k.i B Y);rw[<-T]at CV;obtain⟨j,J,M,HH⟩:=bh (λb V (h:RN b X p c A n k t V (q+1) {r with k:={r.k with word:=x}} s o)=>pM h B (by show r.k.i<=_;omega)) hE f H;obtain⟨Q,U,u,a,i⟩:=H.cT;obtain⟨g,q8,kf,iM⟩:=HH.Y.FH 18 19;unfold bI at g;obtain⟨d,D,-⟩:=ag.aF HH.Y.blk;unfold bI at d;rw[O]at d;clear H l hE S T ha hu f xA O hlen B Y ko;go_enter func105,ntmps105;go_wp2_with fail;clear d D;go_region_held3(RX w p m 18 19) (exact gw) (first
  |((with_reducible go_fit (HA.Y _));rintro e wA ⟨rfl,P⟩;have mg:=RX.below (by assumption) P;(try have nG:=u.Y _ _ (by assumption) P);(try have nR:=a.Y _ _ (by assumption) P))
  |((with_reducible go_fit (lF.Y _ (by assumption)));rintro e Z ⟨rfl,G,R,E⟩;have jR:=RX.acc (by assumption) HH.Y.blk E (R.kept E rfl);have eJ:=cP.trans (by assumption) E))
 all_goals
  obtain⟨K,HF⟩:=av R eJ;clear R E eJ g q8 kf iM i;clear Q U u a;have kU:RN (Z.setCell ⟨p,18,none⟩ (.int .u64 x)) X p c A n k t G (q+1) {r with k:={r.k with word:=x}} s o:=RN.leaf K.Y s o {K.Y.tk with} K.Y.op rfl;obtain⟨C,oU⟩:=av kU (((gv.refl Z p).set 18 (.int .u64 x)).fr G);clear kU;generalize(Z.setCell ⟨p,18,none⟩ (.int .u64 x))=w2 at *;obtain⟨d,D,i⟩:=ag.aF C.Y.blk;unfold bI at d;dsimp only at d;by_cases F:1048575<x
  .go_wp2_with fail;go_quiet(fail);go_wp2_with fail;go_fit (j.Y _ _ (C.Y.more (bZ (ai _) _)));rintro e w3 ⟨rfl,(L:Hid _)⟩;go_wp2_with fail;refine bodyPost_ret (v:=.tuple #[]) (by simp[results,results105,go_sem]) rfl ?_;rw[J.Y,ay (.inl F)];exact cW.then ((HF.Y.trans oU.Y).trans (cP.ext (bZ (ai _) _) p _)) ⟨rfl,L.Y⟩
  .have Ny:IntKind.i64.wrap x=x:=kD M.Y.1 (by omega);have aq:decide (1048575<x)=false:=bF F;have H1:=ae F;clear F;have Wq:=λb=>MY y.seq y.cs y.code y.value b;clear d D i;have ir:=ae C.Y;obtain⟨Q,U,u,a,i⟩:=C.Y.cT;have g:=ir.Y.cx;unfold bI at g;dsimp only at g;have I:=ae (λb h=>CV.Y b G h);by_cases h2:x<=y.seq;all_goals
    go_wp2_with fail;go_region_held3(RX w2 p G 0 0) (exact gw) (first
     |((with_reducible go_fit (I.Y _ (by assumption)));rintro e wD ⟨rfl,W⟩;have J4:=RX.below (by assumption) W;(try have Re:=u.Y _ _ (by assumption) W);(try have zb:=a.Y _ _ (by assumption) W)))
    obtain⟨z,rW⟩:=av Re ((HF.Y.trans oU.Y).trans zb);clear Re zb g i Q U u a;obtain⟨d,D,i⟩:=ag.aF z.Y.blk;unfold bI at d;dsimp only at d;go_wp2_with fail
   .skip;go_fit (j.Y _ _ z.Y);rintro e w3 ⟨rfl,(L:Hid _)⟩;go_wp2_with fail;refine bodyPost_ret (v:=.tuple #[]) (by simp[results,results105,go_sem]) rfl ?_;rw[J.Y,ay (.inr h2)];exact cW.then rW.Y ⟨rfl,L.Y⟩
   .refine bodyPost_ret (v:=.tuple #[]) (by simp[results,results105,go_sem]) rfl ?_;rw[J.Y,au (λh=>by have h6:=H1.Y;omega)];refine cW.then rW.Y ?_;exact cW.leaf z.Y {s with ar:=eE} o {z.Y.tk with ar:=dL.nil _ _ _ _,la:=aZ _} z.Y.op rfl
theorem Ri(H:RN w X p c A n k t m q r s o)(E:RB c N r)(hq:q<=900000)(F:r.k.pc=9):Calls prog 105 #[.pointer p] w (cW X p c A n k t m (q+1) (Rn.fZ c r) w):=by
 have R:=E.k.i.1;have xA:=E.f.a;unfold nh at xA;have sZ:r.k.i<c.threads:=aa;have ko:=H.cs.th;have W:(r.k.args.length:Int)=r.k.j/\r.k.j<5:=aa;have L:0<=r.k.j/\r.k.j<5:=⟨E.k.j.1,W.2⟩
 have z:=(dZ H.cs.ee R sZ).2.2.2.2 r.k.j L.1 L.2;have U6:Hid (r.k.args.length<=1000000):=by unfold Hid;omega
 have T:=ae (λD=>AV D H.cs.ee A k n r.k.i R aa);obtain⟨a,u⟩:=aw (kn c r.k.i);have kF:=H.cs.FF;rw[<-u]at T z;have lF:=ae (λD (h:RN D X p c A n k t m q r s o)=>di h hq (a+r.k.j) z.1);obtain⟨x,Q⟩:=aw (aG r.L (a+r.k.j));have e1:IntKind.i64.wrap (a+r.k.j)=a+r.k.j:=kD z.1 aa;have hE:Rn.fZ c r={r with k:={r.k with args:=r.k.args++[x],j:=r.k.j+1,pc:=if r.k.j+1=5 then 10 else 9}}:=by unfold Rn.fZ;rw[au aa,ay F, <-u, <-Q]
 rw[<-Q]at lF;obtain⟨iF,U,CD,V,HH⟩:=bQ (λD=>yU D s.ar.A r.k.args.length s.ar.c H.tk.la (λe=>by have h:=H.tk.ar.1;rw[e]at h;rw[h.po];rfl)) hE F L H;obtain⟨gq,ij,dA,O,bb⟩:=H.cT;obtain⟨j,bC,-⟩:=ag.aF HH.blk;unfold bI at j;rw[F]at j;clear H E hE Q u z F xA R sZ ko W L kF bC;go_enter func105,ntmps105;go_wp2_with fail;have P:w.drew.cell? ⟨p,19,none⟩=some (.slice s.ar.A r.k.args.length s.ar.c):=j 19;clear j;obtain⟨aT,q8,kf,iM⟩:=HH.FH 19 20;unfold bI at aT;refine wp_region_held_drew (S:=(RX w p m 19 20)) gG (RX.start HH.blk _ _ _) (λd=>?_);refine aU 0 d ?_;refine aU 1 d ?_;refine aU 2 d ?_;refine aU 3 d ?_;refine aU 4 d ?_;refine aU 7 d ?_;refine aU 8 d ?_;refine aU 9 d ?_;refine aU 10 d ?_;refine aU 11 d ?_;refine aU 12 d ?_;refine aU 13 d ?_;refine aU 14 d ?_;refine aU 15 d ?_;refine aU 16 d ?_;refine aU 18 d ?_;refine aU 19 d ?_;refine aU 20 d ?_;refine aU 21 d ?_;refine aU 22 d ?_;refine eQ 5 (λK f=>?_);go_simp;refine f.Y _ _ gw (λd=>?_);clear f K;refine eQ 6 (λK f=>?_);go_simp;((with_reducible go_fit (iF.Y _));rintro e wA ⟨rfl,rfl⟩);go_wp2_with fail;refine f.Y _ _ gw (λd=>?_);clear f K;refine eQ 17 (λK f=>?_);go_simp;((with_reducible go_fit (T.Y _));rintro e wB ⟨rfl,I⟩;have nE:=RX.below aN I;(try have zK:=dA.Y _ _ aN I);(try have wG:=O.Y _ _ aN I));go_wp2_with fail;refine f.Y _ _ gw (λd=>?_);clear f K;refine aU 23 d ?_;refine eQ 24 (λK f=>?_);go_simp;((with_reducible go_fit (lF.Y _ aN));rintro e wC ⟨rfl,C,B,J⟩;have jR:=RX.acc aN HH.Y.blk J (B.kept J rfl);have eJ:=cP.trans aN J);go_wp2_with fail;refine f.Y _ _ gw (λd=>?_);clear f K;refine eQ 25 (λK f=>?_);go_simp;refine f.Y _ _ gw (λd=>?_);clear f K;refine eQ 26 (λK f=>?_);(refine sT rfl _ _ 30 rfl 69 .u64 underlying30 rQ s.ar.A r.k.args.length r.k.args rfl rfl ?_ ⟨wC,0,none⟩ 1 x rfl ?_ ?_ ?_;(exact B.tk.ar.1.alloc _);(exact bD.one _ .u64 _ _);(exact U6.Y);intro A5 c5 y l G;have Hw:=RX.below aN G);refine f.Y _ _ gw (λd=>?_);clear f K;refine aU 27 d ?_;refine aU 28 d ?_;refine aU 29 d ?_;refine eQ 30 (λK f=>?_);go_simp;refine f.Y _ _ gw (λd=>?_);clear f K;refine nT ?_;obtain⟨M,oc⟩:=av (B.more (ah (aj (ai _) _) G)) (eJ.trans (cP.ext (ah (aj (ai _) _) G) p C));have nQ:∀b,(wC.alloc (.cells #[.int .u64 x] 69)).heap.size<=b->b<y->Im y X p C b:=λb h0 h1=>Im.fresh B (by simp at h0;omega) h1;obtain⟨i,g⟩:=aw (r.k.args++[x]);have v:r.k.args.length+1=i.length:=by rw[g];simp
 rw[<-g]at l;rw[v]at l ⊢;have rJ:Hid (oh y (Im y X p C) {r.k with args:=i} {s with ar:=⟨A5,c5⟩}):={M.tk with ar:=⟨l.pw.2,λad z _=>by subst z;exact nQ _ (bk l rfl).1 (bk l rfl).2⟩,la:=l.cap.2}
 obtain⟨br,fW⟩:=av g v;clear nQ l G Hw nE zK wG I B J jR eJ d g v aT q8 kf iM P bb;have Y:RN (y.setCell ⟨p,19,none⟩ (.slice A5 i.length c5)) X p c A n k t C (q+1) {r with k:={r.k with args:=i}} {s with ar:=⟨A5,c5⟩} o:=RN.leaf M {s with ar:=⟨A5,c5⟩} o rJ M.op rfl;obtain⟨H7,Z⟩:=av Y (((gv.refl y p).set 19 (.slice A5 i.length c5)).fr C);clear Y;generalize(y.setCell ⟨p,19,none⟩ (.slice A5 i.length c5))=w7 at *;have vE:=ae (oc.trans Z);clear M oc Z rJ;obtain⟨j,bC,bb⟩:=ag.aF H7.blk;unfold bI at j;dsimp only at j;have aq:=V.1;have a6:=V.2;by_cases h5:r.k.j+1=5
 .have ZR:(r.k.j+1==5)=true:=by rw[h5];rfl
  have iY:Hid (Rn.fZ c r={r with k:={r.k with args:=i,j:=r.k.j+1,pc:=10}}):=by unfold Hid;rw[U.Y, <-br.Y,ay h5]
  exact abX
 .have ZR:(r.k.j+1==5)=false:=by rw[dp];exact h5
  have iY:Hid (Rn.fZ c r={r with k:={r.k with args:=i,j:=r.k.j+1}}):=by unfold Hid;rw[U.Y, <-br.Y,au h5, <-CD.Y]
  exact abX
theorem MZ(H:RN w X p c A n k t m q r s o)(P:RB c N r)(HW:r.k.word<=1048575)(hN:N<=100000)(hq:q<=900000)(cB:r.k.pc=10):Calls prog 105 #[.pointer p] w (cW X p c A n k t m (q+1) (Rn.fZ c r) w):=by
 have kK:=P.k.i.1;have xA:=P.f.a;unfold nh at xA;have sZ:r.k.i<c.threads:=by omega
 have ko:=H.cs.th;have ha:=(dZ H.cs.ee kK sZ).1;have U6:Hid (r.k.found.length<=1000000):=by unfold Hid;have:=P.k.found;omega
 obtain⟨HA,a6⟩:=av (λl=>yh l H.cs.ee A k n r.k.i kK (by omega)) (λl (h:RN l X p c A n k t m q r s o)=>MX l s.ar.A s.ar.c r.k.args P.k.Ou h.tk.la P.k.args h.tk.ar.1);obtain⟨a,Z⟩:∃a,a=jr r.k.args:=⟨_,rfl⟩
 rw[<-Z]at a6;have lF:=ae (λl (h:RN l X p c A n k t m q r s o)=>di h hq (pg c r.k.i) ha.1);obtain⟨x,hx⟩:∃x,x=aG r.L (pg c r.k.i):=⟨_,rfl⟩
 have hE:Rn.fZ c r=Rn.gg c (if x=r.k.word/\a.2.2=true then{r with k:={r.k with found:=r.k.found++[⟨r.k.i,r.k.word,a.2.1,a.1⟩]}}else r):=by unfold Rn.fZ;rw[au (by omega),au (by omega),ay cB, <-Z, <-hx]
 rw[<-hx]at lF;have bE:IntKind.i64.wrap r.k.word=r.k.word:=kD P.k.word.1 (by omega);obtain⟨iF,HNS,aq,HE,CD,HH⟩:=cS (λl=>UQ l s.fo.A r.k.found.length s.fo.c H.tk.lf (λe=>by have h:=H.tk.fo.1;rw[e]at h;exact jv.none_ (by decide) h)) (λl mx qx sx (h:RN l X p c A n k t mx qx r sx o)=>pM h kK (by omega)) (λl mx qx sx (h:RN l X p c A n k t mx qx {r with k:={r.k with found:=r.k.found++[⟨r.k.i,r.k.word,a.2.1,a.1⟩]}} sx o)=>pM h kK (by show r.k.i<=_;omega)) hE cB H;have bb:=H.lt;obtain⟨aC,bC,-⟩:=ag.aF HH.Y.blk;unfold bI at aC;rw[cB]at aC;clear H P HW hE hx ha cB xA kK sZ ko Z hN;go_enter func105,ntmps105;go_wp2_with fail;(with_reducible go_fit (a6.Y _ HH.Y));rintro e F ⟨⟨B,d,rfl,qE,vR⟩,Y⟩;obtain⟨ik,uB⟩:=av (HH.Y.more Y) (cP.ext Y p m);have a7:Hid (eo F (Im F X p m) bj B a.1.cases):=⟨qE,λad h1 h2=>Im.fresh HH.Y (vR ad h1 h2) (cN.FU cM (by decide) qE h1 h2)⟩
 clear qE vR Y aC bC bb;obtain⟨aC,bC,bb⟩:=ag.aF ik.Y.blk;unfold bI at aC;dsimp only at aC;rw[CD.Y]at aC;go_upto_region 13 with fail
 clear aC bC bb;obtain⟨g,hg⟩:∃g,g=F.heap.size:=⟨_,rfl⟩
 have HG:Hid (ag (F.alloc (.cells #[a.1.kind,a.1.arg,a.1.value,a.1.dflt,.slice B a.1.cases.length d] 38)) g 38 #[a.1.kind,a.1.arg,a.1.value,a.1.dflt,.slice B a.1.cases.length d]):=by rw[hg];exact ag.new _ _ _
 obtain⟨jw,qG⟩:=av (ik.Y.more (aj (ai F) (.cells #[a.1.kind,a.1.arg,a.1.value,a.1.dflt,.slice B a.1.cases.length d] 38))) (uB.Y.trans (cP.ext (aj (ai F) (.cells #[a.1.kind,a.1.arg,a.1.value,a.1.dflt,.slice B a.1.cases.length d] 38)) p m));have Nl:Hid (eo (F.alloc (.cells #[a.1.kind,a.1.arg,a.1.value,a.1.dflt,.slice B a.1.cases.length d] 38)) (Im (F.alloc (.cells #[a.1.kind,a.1.arg,a.1.value,a.1.dflt,.slice B a.1.cases.length d] 38)) X p m) bj B a.1.cases):=(a7.Y.same (cP.ext (aj (ai F) (.cells #[a.1.kind,a.1.arg,a.1.value,a.1.dflt,.slice B a.1.cases.length d] 38)) p m).sm).mono λb u=>(cP.ext (aj (ai F) (.cells #[a.1.kind,a.1.arg,a.1.value,a.1.dflt,.slice B a.1.cases.length d] 38)) p m).im u;have DB:g≠p:=by have:=ik.Y.lt;omega
 have M:¬m.own g:=λh=>by have:=ik.Y.mem.lt h;omega
 have qa:=ae (λwd:World=>(Rd.lit wd (wE ⟨⟨r.k.i,r.k.word,a.2.1,a.1⟩,B,d⟩) 40:Rd (wd.alloc (.cells #[r.k.i,r.k.word,a.2.1,a.1.kind,a.1.arg,a.1.value,a.1.dflt,.slice B a.1.cases.length d] 40)) wd (wE ⟨⟨r.k.i,r.k.word,a.2.1,a.1⟩,B,d⟩)));rw[<-hg];clear hg ik uB a7;generalize F.alloc (.cells #[a.1.kind,a.1.arg,a.1.value,a.1.dflt,.slice B a.1.cases.length d] 38)=w2 at *;by_cases V:x=r.k.word
 .have pA:(x==r.k.word)=true:=by rw[V];exact beq_self_eq_true _
  have ir:=ae jw.Y;obtain⟨gq,ij,dA,C,bb⟩:=jw.Y.cT;have z:=ir.Y.cx;unfold bI at z;dsimp only at z;rw[CD.Y]at z;go_wp2_with fail;go_region_held3(RX w2 p m 0 0) (exact gw) (first
   |((with_reducible go_fit (HA.Y _));rintro e wA ⟨rfl,U⟩;have mg:=RX.below (by assumption) U;(try have nG:=dA.Y _ _ (by assumption) U);(try have nR:=C.Y _ _ (by assumption) U))
   |((with_reducible go_fit (lF.Y _ (by assumption)));rintro e j ⟨rfl,y,W,L⟩;have G:=RX.acc (by assumption) ir.Y.blk L (W.kept L rfl);have D:=cP.trans (by assumption) L))
  obtain⟨gN,rW⟩:=av W (qG.Y.trans D);have R:Hid (ag j g 38 #[a.1.kind,a.1.arg,a.1.value,a.1.dflt,.slice B a.1.cases.length d]):=G.blk HG.Y DB M;have ZU:¬y.own g:=λh=>(D.own g h).elim M λhl=>by have:=HG.Y.lt;omega
  have a8:Hid (eo j (Im j X p y) bj B a.1.cases):=(Nl.Y.same D.sm).mono λb u=>D.im u;clear z bb gq ij dA C W L D G;rcases uz:a.2.2 with _|_
  .have iY:=HE.Y;rw[au (λh=>by rw[uz]at h;cases h.2)]at iY;have iY:=ae iY;clear uz V;exact ab0
  .have iY:=HE.Y;rw[ay ⟨V,uz⟩]at iY;have iY:=ae iY;clear uz V;have Sg:=ae gN.Y;have bb:=gN.Y.lt;have cI:=λl (hx:RX j p y 20 21 l) i=>ag.cell (hx.blk R.Y DB ZU) i;have eH:=λl (hx:RX j p y 20 21 l)=>ag.lt (hx.blk R.Y DB ZU);obtain⟨z,q8,kf,iM⟩:=Sg.Y.FH 20 21;unfold bI at z;dsimp only at z;have I:j.drew.cell? ⟨p,20,none⟩=some (.slice s.fo.A r.k.found.length s.fo.c):=ag.cell gN.Y.blk 20;have E:Below j j (j.alloc (.cells #[r.k.i,r.k.word,a.2.1,a.1.kind,a.1.arg,a.1.value,a.1.dflt,.slice B a.1.cases.length d] 40)).drew:=(aj (ai j) (.cells #[r.k.i,r.k.word,a.2.1,a.1.kind,a.1.arg,a.1.value,a.1.dflt,.slice B a.1.cases.length d] 40)).drew;have Ve:Rd (j.alloc (.cells #[r.k.i,r.k.word,a.2.1,a.1.kind,a.1.arg,a.1.value,a.1.dflt,.slice B a.1.cases.length d] 40)).drew j (wE ⟨⟨r.k.i,r.k.word,a.2.1,a.1⟩,B,d⟩):=(qa.Y j).below (ai _).drew;have hX:=gN.Y.more E;have G:=(a8.Y.same (cP.ext E p y).sm).mono λb u=>(cP.ext E p y).im u;have Vf:(j.alloc (.cells #[r.k.i,r.k.word,a.2.1,a.1.kind,a.1.arg,a.1.value,a.1.dflt,.slice B a.1.cases.length d] 40)).drew.cell? ⟨p,20,none⟩=some (.slice s.fo.A r.k.found.length s.fo.c):=ag.cell hX.blk 20;have Q:=ae E;clear E;go_wp2_with fail;refine wp_region_held_drew (S:=(RX j p y 20 21)) (by kernel_rfl) (RX.start Sg.Y.blk _ _ _) (λhHeld=>?_);refine aU 0 hHeld ?_;refine aU 1 hHeld ?_;refine aU 2 hHeld ?_;refine aU 3 hHeld ?_;refine aU 4 hHeld ?_;refine aU 7 hHeld ?_;refine aU 8 hHeld ?_;refine aU 9 hHeld ?_;refine aU 10 hHeld ?_;refine aU 11 hHeld ?_;refine aU 12 hHeld ?_;refine aU 13 hHeld ?_;refine aU 14 hHeld ?_;refine aU 15 hHeld ?_;refine aU 16 hHeld ?_;refine aU 17 hHeld ?_;refine aU 18 hHeld ?_;refine aU 19 hHeld ?_;refine aU 20 hHeld ?_;(try simp only[aL]);refine wpAnyH_ready (rs:=[5,21]) (by kernel_rfl) (by simp) ?_;refine(AllReadyH.cons (o:=⟨some 159,_,_,_,_,_⟩) rfl (λK f=>?_) (AllReadyH.cons (o:=⟨some 175,_,_,_,_,_⟩) rfl (λK f=>?_) AllReadyH.nil));go_simp;refine f.Y _ _ J1 (λhHeld=>?_);clear f K;(try simp only[aL]);refine wpAnyH_ready (rs:=[6,21]) (by kernel_rfl) (by simp) ?_;refine(AllReadyH.cons (o:=⟨some 160,_,_,_,_,_⟩) rfl (λK f=>?_) (AllReadyH.cons (o:=⟨some 175,_,_,_,_,_⟩) rfl (λK f=>?_) AllReadyH.nil));go_simp;((first|rw[gp I]|rw[gp Vf]|skip);(with_reducible go_fit (iF.Y _));rintro e wA ⟨rfl,rfl⟩);go_wp2_with fail;refine f.Y _ _ J1 (λhHeld=>?_);clear f K;(try simp only[aL]);refine eQ 21 (λK f=>?_);go_simp;refine f.Y _ _ J1 (λhHeld=>?_);clear f K;(try simp only[aL]);refine eQ 22 (λK f=>?_);(refine sX rfl _ _ 32 rfl 40 underlying32 nc rfl s.fo.A r.k.found.length r.k.found rfl rfl hX.tk.fo.1 ⟨j,0,none⟩ 1 ⟨⟨r.k.i,r.k.word,a.2.1,a.1⟩,B,d⟩ rfl Ve ?_ ?_ ?_ ?_;(exact U6.Y);(exactλb u=>u.1);(exact G);intro O T w5 IE gH J;have Hw:=RX.below (by assumption) J);refine f.Y _ _ J1 (λhHeld=>?_);clear f K;(try simp only[aL]);refine aU 23 hHeld ?_;refine aU 24 hHeld ?_;refine aU 25 hHeld ?_;(try simp only[aL]);refine eQ 26 (λK f=>?_);go_simp;refine f.Y _ _ J1 (λhHeld=>?_);clear f K;(try simp only[aL]);refine wpAnyH_done (by kernel_rfl) ?_ _;rotate_left;go_simp;refine f.Y _ _ J1 (λhHeld=>?_);clear f K;(try simp only[aL]);refine eQ 6 (λK f=>?_);go_simp;((first|rw[gp I]|rw[gp Vf]|skip);(with_reducible go_fit (iF.Y _));rintro e wA ⟨rfl,rfl⟩);go_wp2_with fail;refine f.Y _ _ J1 (λhHeld=>?_);clear f K;(try simp only[aL]);refine eQ 22 (λK f=>?_);(refine sX rfl _ _ 32 rfl 40 underlying32 nc rfl s.fo.A r.k.found.length r.k.found rfl rfl hX.tk.fo.1 ⟨j,0,none⟩ 1 ⟨⟨r.k.i,r.k.word,a.2.1,a.1⟩,B,d⟩ rfl Ve ?_ ?_ ?_ ?_;(exact U6.Y);(exactλb u=>u.1);(exact G);intro O T w5 IE gH J;have Hw:=RX.below (by assumption) J);refine f.Y _ _ J1 (λhHeld=>?_);clear f K;(try simp only[aL]);refine aU 23 hHeld ?_;refine aU 24 hHeld ?_;refine aU 25 hHeld ?_;(try simp only[aL]);refine eQ 26 (λK f=>?_);go_simp;refine f.Y _ _ J1 (λhHeld=>?_);clear f K;(try simp only[aL]);refine wpAnyH_done (by kernel_rfl) ?_ _;rotate_left;go_simp;refine f.Y _ _ J1 (λhHeld=>?_);clear f K;(try simp only[aL]);refine eQ 5 (λK f=>?_);go_simp;refine f.Y _ _ J1 (λhHeld=>?_);clear f K;(try simp only[aL]);refine eQ 6 (λK f=>?_);go_simp;((first|rw[gp I]|rw[gp Vf]|skip);(with_reducible go_fit (iF.Y _));rintro e wA ⟨rfl,rfl⟩);go_wp2_with fail;refine f.Y _ _ J1 (λhHeld=>?_);clear f K;(try simp only[aL]);refine eQ 22 (λK f=>?_);(refine sX rfl _ _ 32 rfl 40 underlying32 nc rfl s.fo.A r.k.found.length r.k.found rfl rfl hX.tk.fo.1 ⟨j,0,none⟩ 1 ⟨⟨r.k.i,r.k.word,a.2.1,a.1⟩,B,d⟩ rfl Ve ?_ ?_ ?_ ?_;(exact U6.Y);(exactλb u=>u.1);(exact G);intro O T w5 IE gH J;have Hw:=RX.below (by assumption) J);refine f.Y _ _ J1 (λhHeld=>?_);clear f K;(try simp only[aL]);refine aU 23 hHeld ?_;refine aU 24 hHeld ?_;refine aU 25 hHeld ?_;(try simp only[aL]);refine eQ 26 (λK f=>?_);go_simp;refine f.Y _ _ J1 (λhHeld=>?_);clear f K;(try simp only[aL]);refine wpAnyH_done (by kernel_rfl) ?_ _;rotate_left;all_goals
    obtain⟨iA,oc,bz,Ij⟩:=bh (gN.Y.more (ah Q.Y J)) (rW.Y.trans (cP.ext (ah Q.Y J) p y)) (gH (Im w5 X p y) (λb u=>(cP.ext J p y).im u) (λb h0 h1=>Im.fresh gN.Y (bm Q.Y.size h0) h1)) IE;clear gH IE J Hw hX G Ve cI eH z q8 kf iM I Vf bb hHeld;have Xu:RN (w5.setCell ⟨p,20,none⟩ (.slice O (r.k.found.length+1) T)) X p c A n k t y (q+1) {r with k:={r.k with found:=r.k.found++[⟨r.k.i,r.k.word,a.2.1,a.1⟩]}} {s with fo:=⟨O,T⟩} o:=by
     apply RN.at_ (s':={s with fo:=⟨O,T⟩}) (o':=o) iA.Y;case hA=>exact WW
     case hK=>(with_reducible(repeat(first|apply ag.bp|apply ag.drewN|apply ag.jd|apply ag.alloc|exact iA.Y.blk)))
     case he=>unfold bI;simp
     case hL=>rfl
     case tk=>exact{iA.Y.tk with fo:=bz.Y,lf:=by simp;exact Ij.Y}
     case op=>exact iA.Y.op
    obtain⟨H7,ZT⟩:=av Xu (((gv.refl w5 p).set 20 (.slice O (r.k.found.length+1) T)).fr y);clear Xu;generalize(w5.setCell ⟨p,20,none⟩ (.slice O (r.k.found.length+1) T))=w7 at *;go_wp2_with fail;go_fit (aq.Y _ _ _ _ H7.Y);rintro e w3 ⟨rfl,(HX:Hid _)⟩;go_wp2_with fail;refine bodyPost_ret (v:=.tuple #[]) (by simp[results,results105,go_sem]) rfl ?_;rw[iY.Y];exact cW.then (oc.Y.trans ZT.Y) ⟨rfl,HX.Y⟩
 .have pA:(x==r.k.word)=false:=by rw[dp];exact V
  have iY:=HE.Y;rw[au (λh=>V h.1)]at iY;have iY:=ae iY;clear V;have ir:=ae jw.Y;obtain⟨gq,ij,dA,C,bb⟩:=jw.Y.cT;have z:=ir.Y.cx;unfold bI at z;dsimp only at z;rw[CD.Y]at z;go_wp2_with fail;refine wp_region_held_drew (S:=(RX w2 p m 0 0)) (by kernel_rfl) (RX.start ir.Y.blk _ _ _) (λhHeld=>?_);refine aU 0 hHeld ?_;refine aU 1 hHeld ?_;refine aU 2 hHeld ?_;refine aU 3 hHeld ?_;refine aU 4 hHeld ?_;refine aU 5 hHeld ?_;refine aU 6 hHeld ?_;refine aU 7 hHeld ?_;refine aU 8 hHeld ?_;refine aU 9 hHeld ?_;refine aU 12 hHeld ?_;refine aU 13 hHeld ?_;refine aU 14 hHeld ?_;refine aU 15 hHeld ?_;refine aU 16 hHeld ?_;(try simp only[aL]);refine eQ 10 (λK f=>?_);go_simp;((with_reducible go_fit (HA.Y _));rintro e wA ⟨rfl,U⟩;have mg:=RX.below (by assumption) U;(try have nG:=dA.Y _ _ (by assumption) U);(try have nR:=C.Y _ _ (by assumption) U));go_wp2_with fail;refine f.Y _ _ gw (λhHeld=>?_);clear f K;(try simp only[aL]);refine eQ 11 (λK f=>?_);go_simp;((with_reducible go_fit (lF.Y _ (by assumption)));rintro e j ⟨rfl,y,W,L⟩;have G:=RX.acc (by assumption) ir.Y.blk L (W.kept L rfl);have D:=cP.trans (by assumption) L);go_wp2_with fail;refine f.Y _ _ gw (λhHeld=>?_);clear f K;(try simp only[aL]);refine aU 17 hHeld ?_;refine aU 18 hHeld ?_;refine Cy 19 hHeld ?_;refine aU 20 hHeld ?_;(try simp only[aL]);refine wpAnyH_done (by kernel_rfl) ?_ _;obtain⟨gN,rW⟩:=av W (qG.Y.trans D);have R:Hid (ag j g 38 #[a.1.kind,a.1.arg,a.1.value,a.1.dflt,.slice B a.1.cases.length d]):=G.blk HG.Y DB M;have ZU:¬y.own g:=λh=>(D.own g h).elim M λhl=>by have:=HG.Y.lt;omega
  have a8:Hid (eo j (Im j X p y) bj B a.1.cases):=(Nl.Y.same D.sm).mono λb u=>D.im u;clear z bb gq ij dA C W L D G;exact ab0
theorem E5(H:RN w X p c A n k t m q r s o)(f:RB c N r)(u:FB c r.k)(y:N<=100000)(l:q<=900000)(z:8<=r.k.pc)(B:r.k.pc<=10):Calls prog 105 #[.pointer p] w (cW X p c A n k t m (q+1) (Rn.fZ c r) w):=by
 rcases(by omega:r.k.pc=8\/r.k.pc=9\/r.k.pc=10)with h|h|h
 .exact Rh H f l h
 .exact Ri H f l h
 .exact MZ H f (u.w (.inr h)) y l h
end
theorem E6{P:Program}{a:Nat}{t2:TypeId}{f:Addr}(o:fn.results=#[.cell a t1,.cell b t2])(l:tmps.getD a undef=.pointer (some p1))(m:tmps.getD b undef=.pointer (some f))(q:(loadVar t1 p1).run P w=.ok v1 w)(u:(loadVar t2 f).run P w=.ok v2 w):(results fn tmps).run P w=.ok (.tuple #[v1,v2]) w:=by unfold results;rw[o];simp only[Array.mapM_eq_mapM_toList,List.mapM_cons,List.mapM_nil,l,m];simp only[Sem.run_bind,asAddr,Sem.run_pure,Result.andThen_ok,q,u,map_eq_pure_bind,bind_assoc,pure_bind];rfl
theorem ri{P:Program}{a:Nat}(i:fn.results=#[.cell a t1])(f:tmps.getD a undef=.pointer (some p1))(l1:(loadVar t1 p1).run P w=.ok v1 w):(results fn tmps).run P w=.ok v1 w:=by unfold results;rw[i];simp only[Array.mapM_eq_mapM_toList,List.mapM_cons,List.mapM_nil,f];exact Xv
theorem zf{P:Program}{a:Nat}(l:fn.results=#[.cell a t1,.tmp b])(f:tmps.getD a undef=.pointer (some p1))(i:tmps.getD b undef=v2)(l1:(loadVar t1 p1).run P w=.ok v1 w):(results fn tmps).run P w=.ok (.tuple #[v1,v2]) w:=by unfold results;rw[l];simp only[Array.mapM_eq_mapM_toList,List.mapM_cons,List.mapM_nil,f,i];exact Xv
theorem fA{P:Program}{rest:List Oper}{Q:Exit->Act->World->Prop}(f:op.guard=none)(v:Value)(l:(execOp a.eval op).run P w=.ok (.value v) w)(h:wpList P ops Q rest (a.put op.dst v) w):wpList P ops Q (op::rest) a w:=wpList_plain f λ_ b=>by unfold Oper.wp;rw[l];exact b _ _ h
theorem si{P:Program}(f:TypeId)(x:Operand)(u:op.op=.load f x)(b o:Nat)(z:a.eval x=.pointer (some ⟨b,o,none⟩))(cs:List Value)(d:TypeDesc)(l:w.rangeAt b o cs)(y:P.underlying f=some d)(m:d.isRow=true)(q:(P.info? f).map (·.size)=some cs.length):(execOp a.eval op).run P w=.ok (.value (.agg cs.toArray)) w:=by unfold execOp;simp only[u,z,Instr.loadAt,Instr.sureAddr,Sem.run_bind,Sem.run_pure,Result.andThen_ok,run_loadVar_mid w b o f cs d l y m q]
theorem ag.range{q:TypeId}{cs:Array Value}(h:ag w g q cs)(l:List Value)(m:∀(j:Nat) (v:Value),l[j]?=some v->cs[j]?=some v):w.rangeAt g 0 l:=λj v a=>by
 rw[Nat.zero_add,h.cell j]
 exact m j v a
def Iz(w:World)(X:Nat->Prop)(m:Mm)(b:Nat):Prop:=b<w.heap.size/\¬m.own b/\¬X b
def XB(X:Nat->Prop)(a p b:Nat):Prop:=X b\/(a<=b/\b<p)
def zT:List Value:=[.int .i64 0,.int .i64 0,.int .i64 0,.int .i64 0,.int .i64 0,.bool false,.slice none 0 0,.bool false,.int .i64 0,.int .i64 0,.int .i64 0,.int .i64 0,.int .i64 0,.bool false,.int .i64 0,.int .i64 0,.slice none 0 0,.slice none 0 0,.int .u64 0,.slice none 0 0,.slice none 0 0,.slice none 0 0,.int .i64 0,.int .i64 0,.slice none 0 0,.slice none 0 0,.int .i64 0,.int .i64 0,.int .i64 0,.int .i64 0,.int .i64 0,.bool false,.bool false,.bool false]
theorem M0(l:CfS c n t)(F:bD w .i64 A c.start):Calls prog 100 #[j8 c A n k,.int .i64 t] w λe w'=>∃v,e=.returned v/\wU (BC c t) w v w':=by
 have hp:=Mo.aO l.ee;have uy:=l.t0;have vN:=l.t1;have ko:=l.th;have hm:0<=t*c.nodes/\t*c.nodes<=4*64:=⟨lI uy aa,Int.mul_le_mul aa aa aa aa⟩
 obtain⟨y,z⟩:=av (λq (Y:Below w w q)=>yj q l.ee l.FF l.n (F.below Y) (k:=k)) (λq=>Pg q (1+t*c.nodes) c.nodes aa aa aa aa);unfold j8 at y ⊢;have e1:IntKind.i64.wrap (t*c.nodes)=t*c.nodes:=bH _ aa;have e2:IntKind.i64.wrap (1+t*c.nodes)=1+t*c.nodes:=bH _ aa;have B:Hid (BC c t=Km (1+t*c.nodes) c.nodes):=rfl;rw[B.Y];generalize Km (1+t*c.nodes) c.nodes=P at z ⊢;have Z:decide (t<0)=false:=bF aa;have aq:decide (c.threads<=t)=false:=bF aa;clear l F hp B ko;obtain⟨u,a⟩:=aw ((w.alloc (dB c A n k)).alloc vG);have C:Hid (Below w w u):=by rw[a];exact aj (aj (ai w) _) _
 have I:Hid (ag u w 24 #[.int .i64 c.kind,.int .i64 c.threads,.int .i64 c.chans,.int .i64 c.cap,.int .i64 c.nodes,.int .i64 c.aP,.int .i64 c.aB,.int .i64 c.tags,.int .i64 c.bw,.int .i64 c.bn,.slice A n k]):=by rw[a];exact(ag.new _ _ _).alloc _
 have T:Hid (ag u (w.heap.size+1) 73 [.int .i64 0,.int .i64 0,.slice none 0 0,.slice none 0 0,.int .i64 0].toArray):=by rw[a];exact ag.newAt _ _ _ aA
 have K:=ae a;clear a;go_enter func100,ntmps100;obtain⟨o,-,r⟩:=ag.aF I;go_wp2_with fail;rw[<-K.Y];clear K o r;go_fit (y _ C);rintro e w3 ⟨rfl,b⟩;obtain⟨N,np,G⟩:=aS (ah C b) (I.ah b) (T.ah b);clear b;obtain⟨o,-,r⟩:=ag.aF np;have p:=G.lt;go_wp2_with fail;go_fit (z _);rintro e x ⟨v,rfl,d,j,f,h,rfl,(H:Hid _),E,m⟩;unfold mo;obtain⟨J,Q,D⟩:=aS (G.ah m) (ah N m) E;have L:Hid (w.heap.size+1<w3.heap.size):=p;clear E m o r p;obtain⟨M,O,p⟩:=ag.aF J;go_wp2_with fail;have hl:=L.Y;have X:=aY (vs:=[.int .i64 P.own.ix,.int .i64 P.own.tag,.slice d P.free.length j,.slice f P.old.length h,.int .i64 P.spent]) J rfl;have U:=eV (λS s=>by have:=(bk H s).1;omega) [.int .i64 P.own.ix,.int .i64 P.own.tag,.slice d P.free.length j,.slice f P.old.length h,.int .i64 P.spent] _ 0 _ H (g:=w.heap.size+1);have V:=eV (λS s=>by have:=(bk D s).1;omega) [.int .i64 P.own.ix,.int .i64 P.own.tag,.slice d P.free.length j,.slice f P.old.length h,.int .i64 P.spent] _ 0 _ D (g:=w.heap.size+1);have W:Below w w (ax x (w.heap.size+1) 0 [.int .i64 P.own.ix,.int .i64 P.own.tag,.slice d P.free.length j,.slice f P.old.length h,.int .i64 P.spent]):=az (bM _) _ _ _ Q;change bodyPost _ _ _ _ _ (ax x (w.heap.size+1) 0 [.int .i64 P.own.ix,.int .i64 P.own.tag,.slice d P.free.length j,.slice f P.old.length h,.int .i64 P.spent]);clear M O p;generalize ax x (w.heap.size+1) 0 [.int .i64 P.own.ix,.int .i64 P.own.tag,.slice d P.free.length j,.slice f P.old.length h,.int .i64 P.spent]=wz at *;have R:=λi=>ag.cell X i;refine bodyPost_ret (v:=.agg #[.int .i64 P.own.ix,.int .i64 P.own.tag,.slice d P.free.length j,.slice f P.old.length h,.int .i64 P.spent]) (by simp[results,results100,go_sem,R]) rfl ?_;exact⟨_,rfl,d,j,f,h,rfl,aH.bL U aa,aH.bL V aa,W⟩
theorem Rj(H:CfS c n t)(I:bD w .i64 A c.start):Calls prog 66 #[j8 c A n k,.int .i64 t] w λe w'=>∃s,e=.returned (.agg (jA (xD c t) s).toArray)/\oh w' (λb=>w.heap.size<=b/\b<w'.heap.size) (xD c t) s/\Below w w w':=by
 have l:=ae (λwx (hb:Below w w wx)=>M0 (k:=k) H (I.below hb));unfold j8 at l ⊢;obtain⟨P,u⟩:=aw (BC c t);rw[<-u]at l;have E:Hid (xD c t=jc 0 0 sr P cE false):=by rw[u];rfl
 rw[E.Y];clear H I u E;obtain⟨B,a⟩:=aw ((w.alloc (dB c A n k)).alloc (.cells zT.toArray 75));have o:Hid (Below w w B):=by rw[a];exact aj (aj (ai w) _) _
 have L:Hid (ag B w 24 #[.int .i64 c.kind,.int .i64 c.threads,.int .i64 c.chans,.int .i64 c.cap,.int .i64 c.nodes,.int .i64 c.aP,.int .i64 c.aB,.int .i64 c.tags,.int .i64 c.bw,.int .i64 c.bn,.slice A n k]):=by rw[a];exact(ag.new _ _ _).alloc _
 have p:Hid (ag B (w.heap.size+1) 75 zT.toArray):=by rw[a];exact ag.newAt _ _ _ aA
 unfold zT at a;have Q:=ae a;clear a;go_enter func66,ntmps66;go_upto_region 1 with fail
 rw[<-Q.Y];clear Q;obtain⟨y,-,S⟩:=ag.aF L;go_wp2_with fail;go_fit (l _ o);rename_i K Z;rintro e i ⟨v,rfl,C,O,D,N,rfl,(J:Hid _),G,d⟩;unfold mo;obtain⟨M,U,F,R⟩:=bh (p.ah d) (ah o d) G p.lt;clear G d y S l L p o;obtain⟨T,f⟩:=aw (jA (jc 0 0 sr P cE false) {cs:=eE,bf:=eE,nx:=eE,ar:=eE,fo:=eE,se:=eE,fr:=⟨C,O⟩,ol:=⟨D,N⟩});have h:T.length=34:=by rw[f];rfl
 refine Z _ _ ?_;refine fA rfl (.agg T.toArray) (by rw[f];kernel_rfl) ?_;refine wpList_store_mid rfl 75 _ _ rfl (w.heap.size+1) 0 T.toArray rfl rfl (ag.there M 0 _ (by rw[kC,h];decide)) (by rw[kC,h];rfl) (by rw[f];exact gR _ _) ?_;rw[jQ];have hl:=R.Y;have hQ:=aY (vs:=T) (cs:=zT) M (by rw[f];rfl);have q:=eV (λV z=>by have:=(bk J z).1;omega) T _ 0 _ J (g:=w.heap.size+1);have r:=eV (λV z=>by have:=(bk F z).1;omega) T _ 0 _ F (g:=w.heap.size+1);have Y:Below w w (ax i (w.heap.size+1) 0 T):=az (bM _) _ _ _ U;have hs:(ax i (w.heap.size+1) 0 T).heap.size=i.heap.size:=bO _ _ _;change wpList _ _ _ _ _ (ax i (w.heap.size+1) 0 T);generalize ax i (w.heap.size+1) 0 T=wz at *;go_wp2_with fail;have iX:=run_loadVar_mid (P:=prog) wz (w.heap.size+1) 0 75 T _ (ag.range hQ T (λj v hv=>by rw[List.getElem?_toArray];exact hv)) underlying75 rfl (by rw[f];rfl);refine bodyPost_ret (ri results66 rfl iX) rfl ?_;have W:=aH.xS q;have X:=aH.xS r;refine⟨{cs:=eE,bf:=eE,nx:=eE,ar:=eE,fo:=eE,se:=eE,fr:=⟨C,O⟩,ol:=⟨D,N⟩},by rw[f],⟨eo.nil _ _ _ _,dL.nil _ _ _ _,dL.nil _ _ _ _,dL.nil _ _ _ _,rN.nil _ _ _,dL.nil _ _ _ _,⟨W.2,λm x _=>?_⟩,⟨X.2,λm x _=>?_⟩,aZ _,aZ _,aZ _,aZ _,(aH.cap q).2,(aH.cap r).2⟩,Y⟩
 .cases x
  have:=bk q (g:=m.block) rfl;omega
 .cases x
  have:=bk r (g:=m.block) rfl;omega
def Sz(z:Sl)(s:Sh):Sh:={cs:=z,bf:=eE,nx:=eE,ar:=eE,fo:=eE,se:=eE,fr:=s.fr,ol:=s.ol}
theorem M4(x:Tk)(s:Sh)(q:Rq)(z:Sl)(hq:cN w bj z.A q.cases)(hl:q.cases.length<=1000000)(h0:0<=x.seq)(h1:x.seq<=1048575):Calls prog 115 #[j8 c A n k,.agg (jA x s).toArray,.agg (nS q z).toArray] w λe w'=>e=.returned (.tuple #[.agg (jA (fQ c x q).1 (if(fQ c x q).2=0 then Sz z s else s)).toArray,.int .i64 (fQ c x q).2])/\Below w w w':=by
 have G:=ae (λwx (hb:Below w w wx)=>mZ wx q.kind q.arg q.value q.dflt z.A z.c q.cases aa (hq.below hb));have R:bt q.kind q.arg q.value q.cases=Mo.bt q:=rfl;rw[R]at G;clear R;obtain⟨T,L⟩:=aw (jA x s);obtain⟨s',Y⟩:=aw (if(fQ c x q).2=0 then Sz z s else s);rw[<-Y];have HS:=ae Y;clear Y;have e1:IntKind.i64.wrap (x.seq+1)=x.seq+1:=bH _ aa;have W:Hid (fQ c x q=if x.pc≠0 then(x,13)else if Mo.bt q=false then(x,1)else if c.bw<=x.seq then(x,7)else({jc 1 (x.seq+1) q x.aJ cE false with round:=1},0)):=rfl;obtain⟨H,d⟩:=aw ((((w.alloc (dB c A n k)).alloc (.cells T.toArray 75)).alloc (.cells (nS q z).toArray 38)).alloc (.cells zT.toArray 75));have g:Hid (Below w w H):=by rw[d];exact aj (aj (aj (aj (ai w) _) _) _) _
 have F:Hid (ag H w 24 #[.int .i64 c.kind,.int .i64 c.threads,.int .i64 c.chans,.int .i64 c.cap,.int .i64 c.nodes,.int .i64 c.aP,.int .i64 c.aB,.int .i64 c.tags,.int .i64 c.bw,.int .i64 c.bn,.slice A n k]):=by rw[d];exact(((ag.new _ _ _).alloc _).alloc _).alloc _
 have m:Hid (ag H (w.heap.size+1) 75 T.toArray):=by rw[d];exact((ag.newAt _ _ _ aA).alloc _).alloc _
 have C:Hid (ag H (w.heap.size+1+1) 38 (nS q z).toArray):=by rw[d];exact(ag.newAt _ _ _ aA).alloc _
 have D:Hid (ag H (w.heap.size+1+1+1) 75 zT.toArray):=by rw[d];exact ag.newAt _ _ _ aA
 unfold zT nS at d;unfold j8;rw[<-L];have M:=ae L;have HL:Hid (T.length=34):=by rw[L];rfl
 have tv:=ae d;have X:H.cell? ⟨w.heap.size+1,0,none⟩=some (.int .i64 x.pc):=by rw[ag.cell m.Y 0,L];rfl
 have u:H.cell? ⟨w.heap.size+1,1,none⟩=some (.int .i64 x.seq):=by rw[ag.cell m.Y 1,L];rfl
 have Q:=λi=>ag.cell C i;unfold nS at Q ⊢;clear d L hq;go_enter func115,ntmps115;go_upto_region 1 with fail
 rw[<-tv.Y];clear tv;obtain⟨b,-,p⟩:=ag.aF F;have y:=m.lt;have B:=C.lt;have aq:x.pc≠0\/(x.pc=0/\Mo.bt q=false)\/(x.pc=0/\Mo.bt q=true/\c.bw<=x.seq)\/(x.pc=0/\Mo.bt q=true/\x.seq<c.bw):=by rcases Mo.bt q with _|_<;>simp<;>omega
 rcases aq with r|⟨r,E⟩|⟨r,E,hs⟩|⟨r,E,hs⟩
 case' inl =>
  have K:=ae (W.trans (ay r));go_upto_region 2 with fail
  obtain⟨f,rfl⟩:=aw H;have O:=g;have l:=m;have J:=D;clear b p y B X u Q g m D F C G
 case' inr.inl =>
  have K:=ae (W.trans ((au (λh=>h r)).trans (ay E)));have S:(x.pc==0)=true:=by rw[r];rfl
  go_wp2_with fail;go_fit (G _ g);rintro e f ⟨rfl,a⟩;rw[E];obtain⟨O,l,J,V,Z⟩:=bQ (ah g a) (m.ah a) (D.ah a) (F.ah a) (C.ah a);clear b p y B X u Q a g m D F C G;obtain⟨b,-,p⟩:=ag.aF V;have y:=l.lt;have u:f.cell? ⟨w.heap.size+1,1,none⟩=some (.int .i64 x.seq):=by rw[ag.cell l.Y 1,M.Y];rfl
  go_upto_region 4 with fail
  clear b p y u
 case' inr.inr.inl =>
  have K:=ae (W.trans ((au (λh=>h r)).trans ((au (by rw[E];decide)).trans (ay hs))));have S:(x.pc==0)=true:=by rw[r];rfl
  go_wp2_with fail;go_fit (G _ g);rintro e f ⟨rfl,a⟩;rw[E];obtain⟨O,l,J,V,Z⟩:=bQ (ah g a) (m.ah a) (D.ah a) (F.ah a) (C.ah a);clear b p y B X u Q a g m D F C G;obtain⟨b,-,p⟩:=ag.aF V;have y:=l.lt;have u:f.cell? ⟨w.heap.size+1,1,none⟩=some (.int .i64 x.seq):=by rw[ag.cell l.Y 1,M.Y];rfl
  go_upto_region 6 with fail
  clear b p y u
 case inr.inr.inr =>
  have K:=ae (W.trans ((au (λh=>h r)).trans ((au (by rw[E];decide)).trans (au aa))));have S:(x.pc==0)=true:=by rw[r];rfl
  go_wp2_with fail;go_fit (G _ g);rintro e f ⟨rfl,a⟩;rw[E];obtain⟨O,l,J,V,Z⟩:=bQ (ah g a) (m.ah a) (D.ah a) (F.ah a) (C.ah a);clear b p y B X u Q a g m D F C G;obtain⟨b,-,p⟩:=ag.aF V;have y:=l.lt;have u:f.cell? ⟨w.heap.size+1,1,none⟩=some (.int .i64 x.seq):=by rw[ag.cell l.Y 1,M.Y];rfl
  go_upto_region 7 with fail
  clear b p y;obtain⟨U,I⟩:=aw (jA {jc 1 (x.seq+1) q x.aJ cE false with round:=1} (Sz z s));have o:Hid (U.length=34):=by unfold Hid;rw[I];rfl
  have N:=ae I;have a6:f.rangeAt (w.heap.size+1) 22 [.int .i64 x.aJ.own.ix,.int .i64 x.aJ.own.tag,.slice s.fr.A x.aJ.free.length s.fr.c,.slice s.ol.A x.aJ.old.length s.ol.c,.int .i64 x.aJ.spent]:=λj v t=>by
   rw[ag.cell l.Y,M.Y,List.getElem?_toArray]
   rcases j with _|_|_|_|_|j
   all_goals first
    |exact t
    |cases t
  refine wp_region_lit ?_;refine fA rfl (.pointer (some ⟨w.heap.size+1,1,none⟩)) rfl ?_;refine fA rfl (.int .i64 x.seq) (by simp[execOp,go_sem,u]) ?_;refine fA rfl (.int .i64 (x.seq+1)) (by simp[execOp,go_sem,e1]) ?_;refine wpList_load_mid rfl 38 _ rfl (w.heap.size+1+1) 0 rfl (nS q z) _ (Z.range _ (λj v t=>by rw[List.getElem?_toArray];exact t)) underlying38 rfl (by kernel_rfl) ?_;refine fA rfl (.pointer (some ⟨w.heap.size+1,22,none⟩)) rfl ?_;refine wpList_load_mid rfl 73 _ rfl (w.heap.size+1) 22 rfl [.int .i64 x.aJ.own.ix,.int .i64 x.aJ.own.tag,.slice s.fr.A x.aJ.free.length s.fr.c,.slice s.ol.A x.aJ.old.length s.ol.c,.int .i64 x.aJ.spent] _ a6 underlying73 rfl (by kernel_rfl) ?_;refine fA rfl (.agg U.toArray) (by rw[I];kernel_rfl) ?_;refine wpList_store_mid rfl 75 _ _ rfl (w.heap.size+1+1+1) 0 U.toArray rfl rfl (ag.there J 0 _ (by rw[kC,o.Y];decide)) (by rw[kC,o.Y];rfl) (by rw[N.Y];exact gR _ _) ?_;rw[jQ];have hQ:=aY (vs:=U) (cs:=zT) J (by rw[o.Y];rfl);have hB:Below w w (ax f (w.heap.size+1+1+1) 0 U):=az aa _ _ _ O;change wpList _ _ _ _ _ (ax f (w.heap.size+1+1+1) 0 U);generalize ax f (w.heap.size+1+1+1) 0 U=wz at *;go_wp2_with fail;have iX:=run_loadVar_mid (P:=prog) wz (w.heap.size+1+1+1) 0 75 U _ (ag.range hQ U (λj v t=>by rw[List.getElem?_toArray];exact t)) underlying75 rfl (by rw[o.Y];rfl);refine bodyPost_ret (zf (v2:=.int .i64 (fQ c x q).2) results115 rfl (by rw[K.Y];rfl) iX) rfl ⟨?_,hB⟩;rw[N.Y,HS.Y,K.Y];rfl
 all_goals
  obtain⟨U,I⟩:=aw T;have o:Hid (U.length=34):=by unfold Hid;rw[I];exact HL.Y
  have N:Hid (U=jA x s):=by unfold Hid;rw[I];exact M.Y
  refine wp_region_lit ?_;refine wpList_load_mid rfl 75 _ rfl (w.heap.size+1) 0 rfl U _ (l.range U (λj v t=>by rw[List.getElem?_toArray, <-I];exact t)) underlying75 rfl (by rw[o.Y];rfl) ?_;refine wpList_store_mid rfl 75 _ _ rfl (w.heap.size+1+1+1) 0 U.toArray rfl rfl (ag.there J 0 _ (by rw[kC,o.Y];decide)) (by rw[kC,o.Y];rfl) (by rw[N.Y];exact gR _ _) ?_;rw[jQ];have hQ:=aY (vs:=U) (cs:=zT) J (by rw[o.Y];rfl);have hB:Below w w (ax f (w.heap.size+1+1+1) 0 U):=az aa _ _ _ O;change wpList _ _ _ _ _ (ax f (w.heap.size+1+1+1) 0 U);generalize ax f (w.heap.size+1+1+1) 0 U=wz at *;go_wp2_with fail;have iX:=run_loadVar_mid (P:=prog) wz (w.heap.size+1+1+1) 0 75 U _ (ag.range hQ U (λj v t=>by rw[List.getElem?_toArray];exact t)) underlying75 rfl (by rw[o.Y];rfl);refine bodyPost_ret (zf (v2:=.int .i64 (fQ c x q).2) results115 rfl (by rw[K.Y];rfl) iX) rfl ⟨?_,hB⟩;rw[N.Y,HS.Y,K.Y];rfl
theorem lu:∀(b L:List Int) (a:Int),(kQ L a b).length=L.length
 |[],_,_=>rfl
 |y::b,L,a=>by
  unfold kQ
  rw[lu b]
  unfold Mo.setAt
  split
  .rfl
  .rw[dN]
theorem eD.zero{vl vg vc:Value}{G:List Acc}{C:List Int}{kp:Bool}(h:eD w base g vl vg vc L G C kp):eD w 0 g vl vg vc L G C kp:=⟨h.blk,h.words.bL (aZ _),aH.bL h.log (aZ _),h.counts.bL (aZ _),aZ _⟩
theorem M5(m:aV c=true)(hk:c.kind=3)(ht:bG c<=1048576)(N:n=c.start.length)(E:bD w .i64 A c.start):Calls prog 64 #[j8 c A n k] w λe w'=>∃g H X V,e=.returned (.tuple #[.pointer (some ⟨g,0,none⟩),oZ])/\eD w' w g H X V (qu c) [] [] false/\Below w w w':=by
 have hp:=Mo.aO m;obtain⟨HK,HT,U,v,HW⟩:=bQ (λa (p:Below w w a)=>yj a m ht N (E.below p) (k:=k)) (λa (p:Below w w a)=>uX a m N (E.below p) (k:=k)) (λa (p:Below w w a)=>qJ a m N (E.below p) (k:=k) 0 (ek _) af) (λa (p:Below w w a)=>Hs a m hk N (E.below p) (k:=k)) (λa=>ia a 0 1);have ha:=lO m (i:=0) (ek _) (by unfold bX;rw[au (by rw[m];decide)];have:=lI (show 0<=c.threads by omega) (show 0<=c.nodes by omega);omega);have a8:=FP m hk;have bz:=size_pos m;obtain⟨b,y⟩:∃b:Nat,bV c 0=b:=⟨(bV c 0).toNat,aa⟩
 obtain⟨T,hT⟩:∃T:Nat,bG c=T:=⟨(bG c).toNat,aa⟩
 have F:=ha.2 (bA c-1) aa aa;obtain⟨ST,o⟩:=aw (nW c);obtain⟨W,hW⟩:=aw (cm ⟨0,1⟩);have HE:Hid (qu c=kQ (kQ (kQ (List.replicate T 0) (0:Nat) [W]) b [1]) (b+1:Nat) ST):=by unfold Hid qu;rw[hT,y, <-o, <-hW,fR];rfl
 have l:Hid (0<ST.length/\b+1+ST.length<=T/\1<=T/\T<=1048576):=by unfold Hid;rw[o];omega
 rw[y]at U;rw[hT]at HT;rw[<-o]at v;rw[<-hW]at HW;have HN:=ae (λa=>Te a (T:Int) (by have:=l.Y;omega) (by have:=l.Y;omega));rw[fR]at HN;have e1:IntKind.i64.wrap ((b:Int)+1)=((b+1:Nat):Int):=by rw[bH _ (by have:=l.Y;omega)];rfl
 have Rk:=ae (λa B g H X V L G C kp=>Ei a B g H X V L G C kp);unfold j8 at HK ⊢;clear hp ha a8 bz F y hT o hW ht N E m hk;obtain⟨w2,r⟩:=aw (w.alloc (dB c A n k));have bB:Hid (Below w w w2):=by rw[r];exact aj (ai w) _
 have jm:Hid (ag w2 w 24 #[c.kind,c.threads,c.chans,c.cap,c.nodes,c.aP,c.aB,c.tags,c.bw,c.bn,.slice A n k]):=by rw[r];exact ag.new _ _ _
 have tv:=ae r;clear r;go_enter func64,ntmps64;go_upto_region 1 with fail
 rw[<-tv.Y];clear tv;obtain⟨f,-,fE⟩:=ag.aF jm;go_wp2_with fail;go_fit (HK _ bB);rintro e w3 ⟨rfl,z⟩;obtain⟨bU,np⟩:=av (ah bB z) (jm.ah z);clear z f fE jm bB HK;obtain⟨f,-,fE⟩:=ag.aF np;go_wp2_with fail;go_fit (HT _ bU);rintro e j ⟨rfl,D⟩;obtain⟨s,rI⟩:=av (ah bU D) (np.ah D);clear D f fE np bU HT;go_wp2_with fail;go_fit (HN _);rintro e w5 ⟨⟨g,rfl,H,X,V,(rY:Hid _)⟩,dJ⟩;have nD:Hid (Ext j w5):=dJ;clear dJ HN;have f:=λa (F:Ext j a) i=>ag.cell (rI.ah F.Y) i;have pL:=rY.blk.lt;go_wp2_with fail;go_fit (HW _);rintro e w6 ⟨rfl,fp⟩;obtain⟨E7,Fz⟩:=av (rY.ah fp) (Ext.to nD fp);clear fp rY nD pL;have xe:=E7.blk.lt;go_wp2_with fail;go_fit (Rk _ _ _ _ _ _ _ _ _ _ 0 [W] _ 1 1 rfl (E7.alloc _) (by have:=l.Y;simp only[lu,jI];omega) (by have:=l.Y;simp only[lu,jI,iw];omega) aA (bD.one _ .u64 W _));rintro e w7 ⟨rfl,Q,O,q,_,_,_,qU⟩;have Z:=ae q;have S:Hid (Ext j w7):=Below.trans (Ext.alloc Fz _) qU;clear q qU E7 Fz xe;have aq:=λi=>f w7 S i;have Xc:=Z.blk.lt;go_wp2_with fail;go_fit (U _ (ah s S));rintro e w8 ⟨rfl,ve⟩;obtain⟨t,GM⟩:=av (Z.ah ve) (Ext.to S ve);clear ve Z S Xc aq;have a6:=t.blk.lt;go_wp2_with fail;go_fit (Rk _ _ _ _ _ _ _ _ _ _ b [1] _ 1 1 rfl (t.alloc _) (by have:=l.Y;simp only[lu,jI];omega) (by have:=l.Y;simp only[lu,jI,iw];omega) aA (bD.one _ .u64 1 _));rintro e Y ⟨rfl,R,P,(u:Hid _),_,_,_,zz⟩;have Sq:Hid (Ext j Y):=Below.trans (Ext.alloc GM _) zz;clear zz t GM a6;have TJ:=u.blk.lt;go_wp2_with fail;obtain⟨L9,x⟩:=aw (kQ (kQ (List.replicate T 0) (0:Nat) [W]) b [1]);rw[<-x]at u HE;have J:Hid (L9.length=T):=by unfold Hid;rw[x,lu,lu,jI]
 have bE:=u.ah (ai Y).drew;have Sv:Ext j Y.drew:=Ext.to Sq (ai Y).drew;obtain⟨K,tq,Er,M⟩:=bh (λa wy (h:eD a j g H R P L9 [] [] false) (p:Below a a wy)=>h.ah p) (λa (F:Ext j a)=>U a (ah s F.Y)) (λa (F:Ext j a)=>v a (ah s F.Y)) (λa B d (h:eD a j g H R P L9 [] [] false) (E:bD a .u64 B ST)=>Ei a _ _ _ _ _ _ _ _ _ (b+1) ST B _ d rfl h (by have:=l.Y;rw[J.Y];omega) (by have:=l.Y;rw[J.Y];omega) (List.length_pos_iff.1 l.1) E);rw[show((b+1:Nat):Int)=(b:Int)+1 from rfl]at M HE;clear x TJ Rk HW U v;go_region_held3(Ext j) (with_reducible(repeat(first|assumption|refine Ext.alloc ?_ _))) (first
  |((with_reducible go_fit (tq.Y _ aN));rintro e wA ⟨rfl,cD⟩;have mg:=Ext.to aN cD;have XY:=K.Y _ _ aN cD)
  |((with_reducible go_fit (Er.Y _ aN));rintro e wB ⟨B3,d3,rfl,a7,eG⟩;have nE:=Ext.to aN eG;have b5:=K.Y _ _ aN eG;have rZ:=(aK.pw a7).2)
  |((with_reducible go_fit (M.Y _ _ _ aN aN));rintro e wC ⟨rfl,Q,O,q,b6,b7,b8,CE⟩;have jR:=Below.trans (Ext.Y aN) CE;have J4:Ext j wC:=jR))
 go_wp2;go_ret2;have I:=q;rw[<-HE.Y]at I;exact⟨g,H,Q,O,rfl,⟨I.blk,I.words.bL s.size,aH.bL I.log s.size,I.counts.bL s.size,bm s.size I.low⟩,ah s J4.Y⟩
section
variable(w:World)
theorem M6(A:Option Addr)(m:Nat)(xs:List Int)(n:Nat)(f:n=xs.length)(l:bD w .i64 A xs)(o:n<=100000)(v:Int) :
 Calls prog 171 #[.slice A n m,v] w λe w'=>e=.returned (il (λx=>v==x) xs)/\w=w':=by
 obtain⟨HN,HR⟩:=av f l
 clear f l
 go_enter func171,ntmps171
 exact Wf
theorem CG(A:Option Addr)(m:Nat)(f:List Int)(n:Nat)(l:n=f.length)(o:bD w .i64 A f)(q:n<=100000)(v:Int) :
 Calls prog 117 #[.slice A n m,v] w λe w'=>e=.returned (f.contains v)/\w=w':=by
 obtain⟨HI,HA⟩:=av (M6 w A m f n l o q v) (ly (λx=>v==x) f)
 generalize il (λx=>v==x) f=r at HI HA
 clear l o
 go_enter func117,ntmps117
 exact Wh
def ab2(w f:World)(p:Pm)(s:Sl):Prop:=dL f (λb=>w.heap.size<=b/\b<f.heap.size) .i64 s.A p.outs/\p.outs.length<=s.c
def PsE(o:Option Pm)(e:Ending)(f:World):Prop:=∃s,e=.returned (.tuple #[.agg (nK (o.getD xE) s).toArray,o.isSome])/\ab2 w f (o.getD xE) s/\Below w w f
theorem PsE.no(f:Below w w w'):PsE w none (.returned (.tuple #[.agg #[false,false,false,oZ,oN,oZ,oZ],false])) w':=⟨⟨none,0⟩,rfl,⟨dL.nil _ _ _ _,aZ _⟩,f⟩
theorem E8(f:Int)(A:Option Addr)(n d:Nat)(outs:List Int)(u:n=outs.length)(hl:n<=9223372036854775807)(hd:n<=d)(U:bD w .i64 A outs):Calls prog 74 #[f,.slice A n d] w (PsE w (mj f outs)):=by
 obtain⟨HH,E,r⟩:=aS (λp h=>Ie p h) U u;obtain⟨o,C⟩:=aw (mj f outs);rw[<-C];have P:=ae C;have HX:Hid (o=none->∀l,Below w w l->PsE w o (.returned (.tuple #[.agg #[false,false,false,oZ,oN,oZ,oZ],false])) l):=λh l c=>h▸PsE.no w c;have Y:Hid (¬(RT f=true/\n≠0/\n<=8)->o=none):=λh=>by rw[C,mj,au (λk=>h ⟨k.1,by rw[u];exact k.2.1,by rw[u];exact k.2.2.1⟩)]
 clear U u C;rcases hi:RT f with _|_
 .go_enter func74,ntmps74;go_wp2_with fail;go_fit (HH _ _);rintro e l ⟨rfl,rfl⟩;rw[hi];go_wp2;refine bodyPost_ret (v:=.tuple #[.agg #[false,false,false,oZ,oN,oZ,oZ],false]) (by simp[results,results74,go_sem]) rfl (HX (Y (λh=>by rw[hi]at h;exact absurd h.1 af)) _ (aj (ai _) _))
 .by_cases t:n=0\/8<n
  .have Am:=ae (Y (λh=>by omega));rcases t with t|t
   .subst t;exact ab3
   .exact ab3
  .have Nj:0<n/\n<=8:=aa;have J:((n:Int)==0)=false:=by rw[dp];omega
   have K:decide (8<(n:Int))=false:=bF aa;have O:=ae hi;clear hi t;go_enter func74,ntmps74;go_wp2_with fail;go_fit (HH _ _);rintro e l ⟨rfl,rfl⟩;rw[O.Y];go_wp2_with fail;clear J K;go_loop[6,7,24] (λ_ _ i=>∃k:Nat,k<=n/\i=k/\Hid ((∀h∈outs.take k,(RT h && h !=f)=true)/\(outs.take k).Nodup)) (λ_ _ i=>n-(intOf i).toNat);case atStart=>exact⟨0,aZ _,rfl,aA,aA⟩
   case round =>
    obtain⟨k,hk,rfl,F⟩:=hrel;by_cases M:k<n
    .obtain⟨ad,z,hA,(G:Hid _),L⟩:=bD.at_ E (i:=k) (by rw[<-r.Y];exact M);subst hA;have x:=λp (c:Below w w p)=>(Below.cell c (bc L)).trans L;have s:=ae (λp (c:Below w w p)=>CG p (some ad) d (outs.take k) k (by rw[fK, <-r.Y];omega) (bD.take (E.below c) k) aa z);have R:=s.Y _ (aj (ai w) (.cells #[false,false,false,oZ,oN,oZ,oZ] 114));have S:=x _ (aj (ai w) (.cells #[false,false,false,oZ,oN,oZ,oZ] 114));have D:=ae R;clear L x s R;have H:Hid ((RT z=false\/(z==f)=true\/(outs.take k).contains z=true)->o=none):=by
      intro h;rw[P.Y,mj,au];rintro⟨_,_,_,h1,q⟩;rw[List.all_eq_true]at h1;have j:=h1 z (cH G);rw[eT]at j;rcases h with h|h|h
      .rw[h]at j;exact absurd j.1 af
      .rw[bne,h]at j;exact absurd j.2 af
      .rw[<-List.take_append_drop (k+1) outs,List.nodup_append]at q;rw[List.take_add_one,G.Y]at q;have T:=q.1;rw[List.nodup_append]at T;exact T.2.2 z (by simpa using h) z aA rfl
     have I:Hid ((RT z=true/\(z==f)=false/\(outs.take k).contains z=false)->(∀h∈outs.take (k+1),(RT h && h !=f)=true)/\(outs.take (k+1)).Nodup):=by
      rintro⟨h1,q,j⟩;rw[List.take_add_one,G.Y];refine⟨λh y=>?_,?_⟩
      .rcases List.mem_append.1 y with y|y
       .exact F.1 h y
       .have:h=z:=by simpa using y
        subst this;rw[h1,bne,q];rfl
      .rw[List.nodup_append];refine⟨F.2,aA,λa ha b c=>?_⟩;have:b=z:=by simpa using c
       subst this;rintro rfl;rw[List.contains_iff_mem.2 ha]at j;cases j
     rcases h1:RT z with _|_
     .go_wp2_with fail;go_fit (HH _ _);rintro e l ⟨rfl,rfl⟩;rw[h1];go_wp2;refine bodyPost_ret (v:=.tuple #[.agg #[false,false,false,oZ,oN,oZ,oZ],false]) (by simp[results,results74,go_sem]) rfl (HX (H (.inl h1)) _ (aj (ai _) _))
     .rcases q:(z==f)with _|_
      .go_wp2_with fail;go_fit (HH _ _);rintro e l ⟨rfl,rfl⟩;rw[h1];go_wp2_with fail;refine D.mono ?_;rintro e l ⟨rfl,rfl⟩;rcases j:(outs.take k).contains z with _|_
       .go_wp2;go_round;case rel=>exact⟨k+1,aa,by go_num,I ⟨h1,q,j⟩⟩
        case measure=>simp[intOf];omega
       .go_wp2;refine bodyPost_ret (v:=.tuple #[.agg #[false,false,false,oZ,oN,oZ,oZ],false]) (by simp[results,results74,go_sem]) rfl (HX (H (.inr (.inr j))) _ (aj (ai _) _))
      .go_wp2_with fail;go_fit (HH _ _);rintro e l ⟨rfl,rfl⟩;rw[h1];go_wp2;refine bodyPost_ret (v:=.tuple #[.agg #[false,false,false,oZ,oN,oZ,oZ],false]) (by simp[results,results74,go_sem]) rfl (HX (H (.inr (.inl q))) _ (aj (ai _) _))
    .have rz:k=n:=aa;subst rz;have Z:Hid (o=some ⟨true,false,false,f,outs,0,0⟩):=by
      have h:=F.Y;rw[List.take_of_length_le (by rw[<-r.Y];exact aR _)]at h;unfold Hid;rw[P.Y,mj,ay ⟨O.Y,by rw[<-r.Y];omega,by rw[<-r.Y];omega,List.all_eq_true.2 h.1,h.2⟩]
     have V:=ae (λp (c:Below w w p)=>mG p A d outs r aa (E.below c));have Q:Hid (ag (w.alloc (.cells (#[false,false,false,oZ,oN,oZ,oZ]:VA) 114)) w 114 ([false,false,false,oZ,oN,oZ,oZ]:VL).toArray):=ag.new _ _ _;go_wp2_with fail;go_fit (V _ (aj (ai w) _));rintro e N ⟨B,m,rfl,hm,(X:Hid _),c⟩;obtain⟨W,bU⟩:=av (Q.ah c) (ah (aj (ai w) _) c);have HL:Hid (w.heap.size<(w.alloc (.cells #[false,false,false,oZ,oN,oZ,oZ] 114)).heap.size):=Q.lt;clear c V;obtain⟨bN,cj,cu⟩:=ag.aF W;go_wp2_with fail;have hl:=HL.Y;have hQ:=aY (vs:=[true,false,false,f,.slice B k m,oZ,oZ]) W rfl;have h1:=eV (λg' hg=>by have:=(bk X hg).1;omega) [true,false,false,f,.slice B k m,oZ,oZ] _ 0 _ X (g:=w.heap.size);have hB:Below w w (ax N w 0 [true,false,false,f,.slice B k m,oZ,oZ]):=az (aR _) _ _ _ bU;change bodyPost _ _ _ _ _ (ax N w 0 [true,false,false,f,.slice B k m,oZ,oZ]);clear bN cj cu;generalize ax N w 0 [true,false,false,f,.slice B k m,oZ,oZ]=wz at *;have S:=λi=>ag.cell hQ i;refine bodyPost_ret (v:=.tuple #[.agg #[true,false,false,f,.slice B k m,oZ,oZ],true]) (by simp[results,results74,go_sem,S]) rfl ?_;have u:=r.Y;rw[Z.Y];refine⟨⟨B,m⟩,by unfold nK;dsimp only[Option.getD_some,Option.isSome_some];rw[<-u],⟨⟨(aK.pw h1).2,λad ha _=>?_⟩,by show outs.length<=m;omega⟩,hB⟩;exact Rl
end
structure GQ (w:World) (bs g4 g5:Nat) (v:Value) (outs:List Int) (arr:Array Value) (wx:World):Prop where
 lS:Below w w wx
 q:ag wx g4 114 #[false,false,false,oZ,oN,oZ,oZ]
 o:ag wx g5 114 arr
 i:aK wx bs 3 .i64 v outs
 l:w.heap.size<=g4/\g4<g5/\g5<bs
theorem GQ.ext(h:GQ w bs g4 g5 v outs arr wx)(f:Below wx wx wy):GQ w bs g4 g5 v outs arr wy:=⟨ah h.lS f,h.q.ah f,h.o.ah f,h.i.ah f,h.l⟩
theorem GQ.alloc(h:GQ w bs g4 g5 v outs arr wx)(o:Obj):GQ w bs g4 g5 v outs arr (wx.alloc o):=h.ext (aj (ai _) o)
theorem GQ.set(h:GQ w bs g4 g5 v outs arr wx)(i:Nat)(u:Value):GQ w bs g4 g5 v outs (arr.setIfInBounds i u) (wx.setCell ⟨g5,i,none⟩ u) :=
 have b:=h.l
 ⟨h.lS.setCell (p:=⟨g5,i,none⟩) (by show _<=g5;omega) u,aX h.q aa [u] i,h.o.bp i u,eV (λc a=>by have:=(bk h.i a).1;omega) [u] _ i _ h.i,b⟩
theorem Bw(w:World)(p:Pm)(s:Sl)(r:Rs)(hr:bD w .i64 s.A p.outs)(hl:p.outs.length<=8)(hc:p.outs.length<=s.c):Calls prog 71 #[.agg (nK p s).toArray,.agg #[r.seq,r.cs,r.code,r.value]] w λe w'=>∃z,e=.returned (.agg (nK (jU p r) z).toArray)/\ab2 w w' (jU p r) z/\Below w w w':=by
 have X:=ae (λY (O:Below w w Y)=>sS Y p s (hr.below O) hl hc);unfold PmE nK nS at X;have iF:=ae (λY (O:Below w w Y)=>mG Y s.A s.c p.outs rfl aa (hr.below O));obtain⟨q,hq⟩:=aw ((gy p).getD sr);obtain⟨b,O⟩:=aw ((gy p).isSome);rw[<-hq, <-O]at X;have N:Hid ((gy p).isNone= !b):=by unfold Hid;rw[O];cases gy p<;>rfl
 have u:b=true->0<=p.at_/\p.at_<=8:=by
  rw[O];unfold gy;split
  .intro h;cases h
  .rename_i h;intro _;simp only[not_or]at h;omega
 have I:Hid (jU p r=if(gy p).isNone=true then p else if r.code=6\/r.code=11 then p else if r.code=7 then{p with over:=true}else if p.shut=true then{p with at_:=p.at_+1,over:=decide (p.at_+1=p.outs.length)}else if 0<p.at_ then{p with at_:=(p.at_+1)%(p.outs.length+1)}else if r.code=0 then{p with value:=r.value,at_:=1}else{p with shut:=true}):=rfl;clear hq O hr;obtain⟨o,x,t,l,outs,a,v⟩:=p;obtain⟨A,d⟩:=s;unfold nK;dsimp only at *;obtain⟨n,hn⟩:=aw outs.length;rw[<-hn]at X iF I hl hc ⊢;have HN:=ae hn;clear hn;obtain⟨D,C⟩:=aw ((((w.alloc (.cells #[o,x,t,l,.slice A n d,a,v] 114)).alloc (qh r.seq r.cs r.code r.value)).alloc (.cells #[false,false,false,oZ,oN,oZ,oZ] 114)).alloc (.cells #[o,x,t,l,.slice A n d,a,v] 114));have bB:Hid (Below w w D):=by rw[C];exact aj (aj (aj (aj (ai w) _) _) _) _
 have xy:Hid (ag D w 114 #[o,x,t,l,.slice A n d,a,v]):=by rw[C];exact(((ag.new _ _ _).alloc _).alloc _).alloc _
 have jw:Hid (ag D (w.heap.size+1) 64 #[r.seq,r.cs,r.code,r.value]):=by rw[C];exact((ag.newAt _ _ _ aA).alloc _).alloc _
 have gO:Hid (ag D (w.heap.size+1+1) 114 #[false,false,false,oZ,oN,oZ,oZ]):=by rw[C];exact(ag.newAt _ _ _ aA).alloc _
 have W:Hid (ag D (w.heap.size+1+1+1) 114 #[o,x,t,l,.slice A n d,a,v]):=by rw[C];exact ag.newAt _ _ _ aA
 have tv:=ae C;clear C;go_enter func71,ntmps71;go_upto_region 2 with fail
 rw[<-tv.Y];clear tv;obtain⟨U,-,V⟩:=ag.aF xy;have L:=W.lt;go_wp2_with fail;go_fit (iF _ bB);rintro e w3 ⟨B,m,rfl,(HM:Hid _),ho,E⟩;have HL:Hid (w.heap.size+1+1+1<D.heap.size):=W.lt;have Z:GQ w D (w.heap.size+1+1) (w.heap.size+1+1+1) (.slice B n m) outs _ w3:=⟨ah bB E,gO.ah E,W.ah E,ho,aa,aa,W.lt⟩
 have G4:=ae (Z.set 4 (.slice B n m));have CX:Hid (ag (w3.setCell ⟨w.heap.size+1+1+1,4,none⟩ (.slice B n m)) w 114 _):=aX (xy.ah E) aa [.slice B n m] 4;have kG:Hid (ag (w3.setCell ⟨w.heap.size+1+1+1,4,none⟩ (.slice B n m)) (w.heap.size+1) 64 _):=aX (jw.ah E) aa [.slice B n m] 4;have Ez:=λi=>ag.free Z.o i;obtain⟨Q,-,L⟩:=ag.aF Z.o;clear E ho U V xy jw gO W bB iF Z;go_upto_region 3 with fail
 clear Ez Q L;generalize w3.setCell ⟨w.heap.size+1+1+1,4,none⟩ (.slice B n m)=w4 at *;obtain⟨U,-,V⟩:=ag.aF CX;go_wp2_with fail;go_fit (X _ G4.lS);rintro e y ⟨⟨j,k⟩,rfl,_,dJ⟩;obtain⟨G,UE,iA⟩:=aS (G4.ext dJ) (CX.ah dJ) (kG.ah dJ);clear U V dJ G4 CX kG X;obtain⟨U,-,V⟩:=ag.aF UE;obtain⟨gB,-,a6⟩:=ag.aF iA;obtain⟨Q,Ez,L⟩:=ag.aF G.o;simp only[List.setIfInBounds_toArray,List.set_cons_zero,List.set_cons_succ]at Q;have aq:b=false\/(b=true/\r.code=6)\/(b=true/\r.code=11)\/(b=true/\r.code=7)\/(b=true/\(r.code≠6/\r.code≠11/\r.code≠7)/\x=true)\/(b=true/\(r.code≠6/\r.code≠11/\r.code≠7)/\x=false/\0<a)\/(b=true/\(r.code≠6/\r.code≠11/\r.code≠7)/\x=false/\a<=0/\r.code=0)\/(b=true/\(r.code≠6/\r.code≠11/\r.code≠7)/\x=false/\a<=0/\r.code≠0):=by cases b<;>cases x<;>simp<;>omega
 rcases aq with rfl|⟨rfl,f⟩|⟨rfl,f⟩|⟨rfl,f⟩|⟨rfl,f,rfl⟩|⟨rfl,f,rfl,h0⟩|⟨rfl,f,rfl,h0,h1⟩|⟨rfl,f,rfl,h0,h1⟩
 case' inl =>
  go_upto_region 5 with fail
  obtain⟨c,hp'⟩:∃c:Pm,c=⟨o,x,t,l,outs,a,v⟩:=⟨_,rfl⟩
  have P:Hid (jU ⟨o,x,t,l,outs,a,v⟩ r=c):=by unfold Hid;rw[I.Y,N.Y];rw[ay af];exact hp'.symm
  have J:Hid (c.outs=outs):=by unfold Hid;rw[hp']
  have K:GQ w D (w.heap.size+1+1) (w.heap.size+1+1+1) (.slice B n m) outs (nK c ⟨B,m⟩).toArray (y.alloc (lQ q j q.cases.length k)):=by have h:=G.alloc (lQ q j q.cases.length k);rw[hp',nK];dsimp only;rw[<-HN.Y];exact h
  generalize y.alloc (lQ q j q.cases.length k)=H at *
 case' inr.inl =>
  have T:(r.code==6)=true:=by rw[f];rfl
  go_upto_region 9 with fail
  obtain⟨c,hp'⟩:∃c:Pm,c=⟨o,x,t,l,outs,a,v⟩:=⟨_,rfl⟩
  have P:Hid (jU ⟨o,x,t,l,outs,a,v⟩ r=c):=by unfold Hid;rw[I.Y,N.Y];rw[au af,ay (.inl f)];exact hp'.symm
  have J:Hid (c.outs=outs):=by unfold Hid;rw[hp']
  have K:GQ w D (w.heap.size+1+1) (w.heap.size+1+1+1) (.slice B n m) outs (nK c ⟨B,m⟩).toArray (y.alloc (lQ q j q.cases.length k)):=by have h:=G.alloc (lQ q j q.cases.length k);rw[hp',nK];dsimp only;rw[<-HN.Y];exact h
  generalize y.alloc (lQ q j q.cases.length k)=H at *
 case' inr.inr.inl =>
  have T:(r.code==6)=false:=by rw[f];rfl
  have F:(r.code==11)=true:=by rw[f];rfl
  go_upto_region 9 with fail
  obtain⟨c,hp'⟩:∃c:Pm,c=⟨o,x,t,l,outs,a,v⟩:=⟨_,rfl⟩
  have P:Hid (jU ⟨o,x,t,l,outs,a,v⟩ r=c):=by unfold Hid;rw[I.Y,N.Y];rw[au af,ay (.inr f)];exact hp'.symm
  have J:Hid (c.outs=outs):=by unfold Hid;rw[hp']
  have K:GQ w D (w.heap.size+1+1) (w.heap.size+1+1+1) (.slice B n m) outs (nK c ⟨B,m⟩).toArray (y.alloc (lQ q j q.cases.length k)):=by have h:=G.alloc (lQ q j q.cases.length k);rw[hp',nK];dsimp only;rw[<-HN.Y];exact h
  generalize y.alloc (lQ q j q.cases.length k)=H at *
 case' inr.inr.inr.inl =>
  have T:(r.code==6)=false:=by rw[f];rfl
  have F:(r.code==11)=false:=by rw[f];rfl
  have M:(r.code==7)=true:=by rw[f];rfl
  go_upto_region 12 with fail
  obtain⟨c,hp'⟩:∃c:Pm,c=⟨o,x,true,l,outs,a,v⟩:=⟨_,rfl⟩
  have P:Hid (jU ⟨o,x,t,l,outs,a,v⟩ r=c):=by unfold Hid;rw[I.Y,N.Y];rw[au af,au aa,ay f];exact hp'.symm
  have J:Hid (c.outs=outs):=by unfold Hid;rw[hp']
  have K:GQ w D (w.heap.size+1+1) (w.heap.size+1+1+1) (.slice B n m) outs (nK c ⟨B,m⟩).toArray ((y.setCell ⟨w.heap.size+1+1+1,2,none⟩ true).alloc (lQ q j q.cases.length k)):=by have h:=(G.set 2 true).alloc (lQ q j q.cases.length k);exact E9
  generalize(y.setCell ⟨w.heap.size+1+1+1,2,none⟩ true).alloc (lQ q j q.cases.length k)=H at *
 case' inr.inr.inr.inr.inl =>
  have T:(r.code==6)=false:=by rw[dp];exact f.1
  have F:(r.code==11)=false:=by rw[dp];exact f.2.1
  have M:(r.code==7)=false:=by rw[dp];exact f.2.2
  have u:=u rfl;have Xi:IntKind.i64.wrap (a+1)=a+1:=bH _ aa;have S:IntKind.i64.wrap ((n:Int)+1)=(n:Int)+1:=bH _ aa;have mI:((n:Int)+1==0)=false:=by rw[dp];omega
  have MM:(a+1).tmod ((n:Int)+1)=(a+1)%((n:Int)+1):=Int.tmod_eq_emod_of_nonneg aa;go_upto_region 21 with fail
  obtain⟨c,hp'⟩:∃c:Pm,c=⟨o,true,decide (a+1=n),l,outs,a+1,v⟩:=⟨_,rfl⟩
  have P:Hid (jU ⟨o,true,t,l,outs,a,v⟩ r=c):=by unfold Hid;rw[I.Y,N.Y];rw[au af,au (λh=>h.elim f.1 f.2.1),au f.2.2,ay (by first|rfl|trivial)];exact hp'.symm
  have J:Hid (c.outs=outs):=by unfold Hid;rw[hp']
  have K:GQ w D (w.heap.size+1+1) (w.heap.size+1+1+1) (.slice B n m) outs (nK c ⟨B,m⟩).toArray (((y.setCell ⟨w.heap.size+1+1+1,5,none⟩ (.int .i64 (a+1))).setCell ⟨w.heap.size+1+1+1,2,none⟩ (.bool (a+1==n))).alloc (lQ q j q.cases.length k)):=by have h:=((G.set 5 (.int .i64 (a+1))).set 2 (.bool (a+1==n))).alloc (lQ q j q.cases.length k);exact E9
  generalize((y.setCell ⟨w.heap.size+1+1+1,5,none⟩ (.int .i64 (a+1))).setCell ⟨w.heap.size+1+1+1,2,none⟩ (.bool (a+1==n))).alloc (lQ q j q.cases.length k)=H at *
 case' inr.inr.inr.inr.inr.inl =>
  have T:(r.code==6)=false:=by rw[dp];exact f.1
  have F:(r.code==11)=false:=by rw[dp];exact f.2.1
  have M:(r.code==7)=false:=by rw[dp];exact f.2.2
  have u:=u rfl;have Xi:IntKind.i64.wrap (a+1)=a+1:=bH _ aa;have S:IntKind.i64.wrap ((n:Int)+1)=(n:Int)+1:=bH _ aa;have mI:((n:Int)+1==0)=false:=by rw[dp];omega
  have MM:(a+1).tmod ((n:Int)+1)=(a+1)%((n:Int)+1):=Int.tmod_eq_emod_of_nonneg aa;go_upto_region 21 with fail
  obtain⟨c,hp'⟩:∃c:Pm,c=⟨o,false,t,l,outs,(a+1)%(n+1),v⟩:=⟨_,rfl⟩
  have P:Hid (jU ⟨o,false,t,l,outs,a,v⟩ r=c):=by unfold Hid;rw[I.Y,N.Y];rw[au af,au (λh=>h.elim f.1 f.2.1),au f.2.2,au af,ay h0];exact hp'.symm
  have J:Hid (c.outs=outs):=by unfold Hid;rw[hp']
  have K:GQ w D (w.heap.size+1+1) (w.heap.size+1+1+1) (.slice B n m) outs (nK c ⟨B,m⟩).toArray ((y.setCell ⟨w.heap.size+1+1+1,5,none⟩ (.int .i64 ((a+1)%(n+1)))).alloc (lQ q j q.cases.length k)):=by have h:=(G.set 5 (.int .i64 ((a+1)%(n+1)))).alloc (lQ q j q.cases.length k);exact E9
  generalize(y.setCell ⟨w.heap.size+1+1+1,5,none⟩ (.int .i64 ((a+1)%(n+1)))).alloc (lQ q j q.cases.length k)=H at *
 case' inr.inr.inr.inr.inr.inr.inl =>
  have T:(r.code==6)=false:=by rw[dp];exact f.1
  have F:(r.code==11)=false:=by rw[dp];exact f.2.1
  have M:(r.code==7)=false:=by rw[dp];exact f.2.2
  have u:=u rfl;have Xi:IntKind.i64.wrap (a+1)=a+1:=bH _ aa;have S:IntKind.i64.wrap ((n:Int)+1)=(n:Int)+1:=bH _ aa;have mI:((n:Int)+1==0)=false:=by rw[dp];omega
  have MM:(a+1).tmod ((n:Int)+1)=(a+1)%((n:Int)+1):=Int.tmod_eq_emod_of_nonneg aa;go_upto_region 21 with fail
  obtain⟨c,hp'⟩:∃c:Pm,c=⟨o,false,t,l,outs,1,r.value⟩:=⟨_,rfl⟩
  have P:Hid (jU ⟨o,false,t,l,outs,a,v⟩ r=c):=by unfold Hid;rw[I.Y,N.Y];rw[au af,au (λh=>h.elim f.1 f.2.1),au f.2.2,au af,au aa,ay h1];exact hp'.symm
  have J:Hid (c.outs=outs):=by unfold Hid;rw[hp']
  have K:GQ w D (w.heap.size+1+1) (w.heap.size+1+1+1) (.slice B n m) outs (nK c ⟨B,m⟩).toArray (((y.setCell ⟨w.heap.size+1+1+1,6,none⟩ r.value).setCell ⟨w.heap.size+1+1+1,5,none⟩ (.int .i64 1)).alloc (lQ q j q.cases.length k)):=by have h:=((G.set 6 r.value).set 5 (.int .i64 1)).alloc (lQ q j q.cases.length k);exact E9
  generalize((y.setCell ⟨w.heap.size+1+1+1,6,none⟩ r.value).setCell ⟨w.heap.size+1+1+1,5,none⟩ (.int .i64 1)).alloc (lQ q j q.cases.length k)=H at *
 case' inr.inr.inr.inr.inr.inr.inr =>
  have T:(r.code==6)=false:=by rw[dp];exact f.1
  have F:(r.code==11)=false:=by rw[dp];exact f.2.1
  have M:(r.code==7)=false:=by rw[dp];exact f.2.2
  have u:=u rfl;have Xi:IntKind.i64.wrap (a+1)=a+1:=bH _ aa;have S:IntKind.i64.wrap ((n:Int)+1)=(n:Int)+1:=bH _ aa;have mI:((n:Int)+1==0)=false:=by rw[dp];omega
  have MM:(a+1).tmod ((n:Int)+1)=(a+1)%((n:Int)+1):=Int.tmod_eq_emod_of_nonneg aa;have a7:(r.code==0)=false:=by rw[dp];exact h1
  go_upto_region 21 with fail
  obtain⟨c,hp'⟩:∃c:Pm,c=⟨o,true,t,l,outs,a,v⟩:=⟨_,rfl⟩
  have P:Hid (jU ⟨o,false,t,l,outs,a,v⟩ r=c):=by unfold Hid;rw[I.Y,N.Y];rw[au af,au (λh=>h.elim f.1 f.2.1),au f.2.2,au af,au aa,au h1];exact hp'.symm
  have J:Hid (c.outs=outs):=by unfold Hid;rw[hp']
  have K:GQ w D (w.heap.size+1+1) (w.heap.size+1+1+1) (.slice B n m) outs (nK c ⟨B,m⟩).toArray ((y.setCell ⟨w.heap.size+1+1+1,1,none⟩ true).alloc (lQ q j q.cases.length k)):=by have h:=(G.set 1 true).alloc (lQ q j q.cases.length k);exact E9
  generalize(y.setCell ⟨w.heap.size+1+1+1,1,none⟩ true).alloc (lQ q j q.cases.length k)=H at *
 all_goals
  clear U V gB a6 Q Ez L hp' G UE iA;have R:=ae K;clear K;have Q:=λi=>ag.cell R.o i;obtain⟨bN,cj,cu⟩:=ag.aF R.q;unfold nK at Q;go_wp2_with fail;have hl:=R.l;have hQ:=aY (vs:=[c.on,c.shut,c.over,c.fG,.slice B c.outs.length m,c.at_,c.value]) (cs:=[false,false,false,oZ,oN,oZ,oZ]) R.q rfl;have h1:=eV (λg' hg=>by have:=(bk R.i hg).1;omega) [c.on,c.shut,c.over,c.fG,.slice B c.outs.length m,c.at_,c.value] _ 0 _ R.i (g:=w.heap.size+1+1);have hB:Below w w (ax H (w.heap.size+1+1) 0 [c.on,c.shut,c.over,c.fG,.slice B c.outs.length m,c.at_,c.value]):=az aa _ _ _ R.lS;change bodyPost _ _ _ _ _ (ax H (w.heap.size+1+1) 0 [c.on,c.shut,c.over,c.fG,.slice B c.outs.length m,c.at_,c.value]);clear Q bN cj cu;generalize ax H (w.heap.size+1+1) 0 [c.on,c.shut,c.over,c.fG,.slice B c.outs.length m,c.at_,c.value]=wz at *;have fy:=λi=>ag.cell hQ i;refine bodyPost_ret (v:=.agg #[c.on,c.shut,c.over,c.fG,.slice B c.outs.length m,c.at_,c.value]) (by simp[results,results71,go_sem,fy]) rfl ?_;rw[P.Y];refine⟨⟨B,m⟩,rfl,⟨⟨by rw[J.Y];exact(aK.pw h1).2,λad ha _=>?_⟩,by rw[J.Y, <-HN.Y];exact HM.Y⟩,hB⟩;exact Rl
def zh(x:Nt)(s:Sl):List Value:=[x.kind,x.th,x.seq,x.time,x.aQ.kind,x.aQ.arg,x.aQ.value,x.aQ.dflt,.slice s.A x.aQ.cases.length s.c,x.res.seq,x.res.cs,x.res.code,x.res.value]
def tnC(x:Tn)(s:Sl):List Value:=[x.time,x.th,.slice s.A x.ops.length s.c]
def PTk:ux Tk:=λw S r x=>∃s,r=jA x s/\oh w S x s
def PPm:ux Pm:=λw S r x=>∃s:Sl,r=nK x s/\dL w S .i64 s.A x.outs/\x.outs.length<=s.c
def SB:ux Nt:=λw S r x=>∃s:Sl,r=zh x s/\eo w S bj s.A x.aQ.cases
def Xw:ux Tn:=λw S r x=>∃s:Sl,r=tnC x s/\rN w S s.A x.ops
theorem lv:Good PTk:=⟨λh ⟨s,h1,h2⟩=>⟨s,h1,h2.move (λ_ _=>rfl) h⟩,λh ⟨s,h1,h2⟩=>⟨s,h1,h2.move h λ_ h=>h⟩⟩
theorem ny:Good PPm:=⟨λh ⟨s,h1,h2,h3⟩=>⟨s,h1,h2.mono h,h3⟩,λh ⟨s,h1,h2,h3⟩=>⟨s,h1,h2.same h,h3⟩⟩
theorem fI:Good SB:=⟨λh ⟨s,h1,h2⟩=>⟨s,h1,h2.mono h⟩,λh ⟨s,h1,h2⟩=>⟨s,h1,h2.same h⟩⟩
theorem je:Good Xw:=⟨λh ⟨s,h1,h2⟩=>⟨s,h1,h2.move (λ_ _=>rfl) h⟩,λh ⟨s,h1,h2⟩=>⟨s,h1,h2.move h λ_ h=>h⟩⟩
structure Sx where
 (T P N V S M:Value)
 m:Mm
class OW where
 O:Nat->Prop
variable[OW]
def Sx.X(s:Sx)(f b:Nat):Prop:=b=f\/s.T.ownBlock=some b\/s.P.ownBlock=some b\/s.N.ownBlock=some b\/s.V.ownBlock=some b\/s.S.ownBlock=some b\/s.M.ownBlock=some b
def Sx.U(s:Sx)(f b:Nat):Prop:=s.X f b\/s.m.own b
def Sx.I(s:Sx)(w:World)(f b:Nat):Prop:=b<w.heap.size/\¬s.m.own b/\¬s.X f b/\¬OW.O b
def om(A:Option Addr)(n k:Nat)(x:Mc)(s:Sx):Array Value:=#[x.c.kind,x.c.threads,x.c.chans,x.c.cap,x.c.nodes,x.c.aP,x.c.aB,x.c.tags,x.c.bw,x.c.bn,.slice A n k,.pointer (some ⟨s.m.g,0,none⟩),s.T,s.P,s.N,s.V,s.S,s.M,x.time]
structure MS (w:World) (x0:Nat) (A:Option Addr) (n k q:Nat) (x:Mo.Mc) (s:Sx):Prop where
 blk:ag w x0 86 (om A n k x s)
 mem:xz w s.m x.L q
 T:aD 75 34 PTk w 0 (s.I w x0) s.T x.T
 P:aD 114 7 PPm w 0 (s.I w x0) s.P x.P
 N:aD 66 13 SB w 0 (s.I w x0) s.N x.N
 V:aD 80 3 Xw w 0 (s.I w x0) s.V x.V
 S:aK w 0 3 .i64 s.S x.S
 M:aK w 0 3 .i64 s.M x.M
 mx:∀b,s.m.own b->¬s.X x0 b
 sm:∀b,s.S.ownBlock=some b->s.M.ownBlock≠some b
 cf:dL w (s.I w x0) .i64 A x.c.start
 hn:n=x.c.start.length
 ol:∀b,OW.O b->b<w.heap.size/\¬s.U x0 b
structure gV (w w':World) (U U':Nat->Prop):Prop where
 lS:Below 0 w w'
 same:∀b,b<w.heap.size->¬U b->w'.heap[b]?=w.heap[b]?
 own:∀b,U' b->U b\/w.heap.size<=b
theorem gV.refl(w:World)(U:Nat->Prop):gV w w U U:=⟨Below.refl _ _,λ_ _ _=>rfl,λ_ h=>.inl h⟩
theorem gV.trans{C:World}{U l u:Nat->Prop}(h:gV w w1 U l)(k:gV w1 C l u):gV w C U u :=
 have d:=h.lS.size
 ⟨h.lS.trans k.lS,λb a c=>(k.same b aa λe=>(h.own b e).elim c λe=>by omega).trans (h.same b a c),λb a=>(k.own b a).elim (h.own b) λe=>.inr aa⟩
theorem gV.ext(f:Below w w w')(U:Nat->Prop):gV w w' U U:=⟨f.mono (aZ _),λ_ h _=>f.block _ h,λ_ h=>.inl h⟩
section
variable{q:Nat}{s:Sx}
theorem MS.ul(H:MS w x0 A n k q x s)(f:s.U x0 b):b<w.heap.size:=by
 rcases f with(rfl|f|f|f|f|f|f)|f
 .exact H.blk.lt
 .exact(aD.lt H.T f).2
 .exact(aD.lt H.P f).2
 .exact(aD.lt H.N f).2
 .exact(aD.lt H.V f).2
 .exact(bk H.S f).2
 .exact(bk H.M f).2
 .exact H.mem.lt f
theorem fw{c:Nat}{t:TypeId}{o u:Array Value}{f l:Nat×Nat}(i:w.heap[b]?=some (.cells o e f))(m:w.heap[c]?=some (.cells u t l))(h:e≠t):b≠c:=λa=>by
 rw[a,m]at i
 injection i with i
 injection i with _ h4
 exact h h4.symm
structure Mv (w w':World) (x0:Nat) (s s':Sx) (D:Nat->Prop):Prop where
 lS:Below 0 w w'
 same:∀b,b<w.heap.size->¬D b->w'.heap[b]?=w.heap[b]?
 sub:∀b,D b->s.U x0 b
 own:∀b,s'.U x0 b->s.U x0 b\/w.heap.size<=b
section
variable{s':Sx}
theorem Mv.mono(V:Mv w w' x0 s s' D):∀b,s.I w x0 b->s'.I w' x0 b:=λb h =>
 have a:¬s'.U x0 b:=λe=>(V.own b e).elim (λe=>e.elim h.2.2.1 h.2.1) λe=>by have:=h.1;omega
 ⟨bW h.1 V.lS.size,λe=>a (.inr e),λe=>a (.inl e),h.2.2.2⟩
theorem Mv.ol(V:Mv w w' x0 s s' D)(h:∀b,OW.O b->b<w.heap.size/\¬s.U x0 b):∀b,OW.O b->b<w'.heap.size/\¬s'.U x0 b:=λb a =>
 have a:=h b a
 ⟨bW a.1 V.lS.size,λe=>(V.own b e).elim a.2 λe=>by omega⟩
theorem Mv.sm(V:Mv w w' x0 s s' D):Sm (s.I w x0) w w':=λb h=>V.same b h.1 λe=>(V.sub b e).elim h.2.2.1 h.2.1
theorem Mv.fr(V:Mv w w' x0 s s' D):gV w w' (s.U x0) (s'.U x0):=⟨V.lS,λb a c=>V.same b a λe=>c (V.sub b e),V.own⟩
theorem Mv.rows(V:Mv w w' x0 s s' D){m:Nat}{P:ux α}(g:Good P)(h:aD e m P w 0 (s.I w x0) v xs)(f:∀b,v.ownBlock=some b->¬D b):aD e m P w' 0 (s'.I w' x0) v xs:=(h.move g V.sm λb a=>V.same b (aD.lt h a).2 (f b a)).mono g V.mono
theorem Mv.ints(V:Mv w w' x0 s s' D){f:IntKind}{i:List Int}(h:aK w 0 e f v i)(l:∀b,v.ownBlock=some b->¬D b):aK w' 0 e f v i:=iL h λb a=>V.same b (bk h a).2 (l b a)
theorem Mv.CI(V:Mv w w' x0 s s' D)(h:xz w s.m L q)(f:∀b,s.m.own b->¬D b):xz w' s.m L q:=h.same λb a=>V.same b (h.lt a) (f b a)
theorem Mv.cfg(V:Mv w w' x0 s s' D)(h:dL w (s.I w x0) .i64 A x.c.start):dL w' (s'.I w' x0) .i64 A x.c.start:=(h.same V.sm).mono V.mono
end
theorem aD.mA{m:Nat}{P:ux α}{S:Nat->Prop}(h:aD e m P w 0 S v xs):∀b,v.ownBlock=some b->∃d a,w.heap[b]?=some (.cells d e a):=by obtain⟨rows,_,c,_⟩:=h;exact dY c
theorem MS.b9(H:MS w x0 A n k q x s):(∀b,s.T.ownBlock=some b->b≠x0)/\(∀b,s.P.ownBlock=some b->b≠x0)/\(∀b,s.N.ownBlock=some b->b≠x0)/\(∀b,s.V.ownBlock=some b->b≠x0)/\(∀b,s.S.ownBlock=some b->b≠x0)/\(∀b,s.M.ownBlock=some b->b≠x0):=⟨λb a=>(aD.mA H.T b a).elim λ_ h=>h.elim λ_ h=>fw h H.blk af,λb a=>(aD.mA H.P b a).elim λ_ h=>h.elim λ_ h=>fw h H.blk af,λb a=>(aD.mA H.N b a).elim λ_ h=>h.elim λ_ h=>fw h H.blk af,λb a=>(aD.mA H.V b a).elim λ_ h=>h.elim λ_ h=>fw h H.blk af,λb a=>(dY H.S b a).elim λ_ h=>h.elim λ_ h=>fw h H.blk af,λb a=>(dY H.M b a).elim λ_ h=>h.elim λ_ h=>fw h H.blk af⟩
theorem MS.upd(H:MS w x0 A n k q x s)(i:Below 0 w w')(G:∀b,b<w.heap.size->b≠x0->w'.heap[b]?=w.heap[b]?)(l:ag w' x0 86 arr)(E:arr=om A n k x' s)(f:x'.c=x.c)(m:x'.L=x.L)(B:x'.T=x.T)(y:x'.P=x.P)(u:x'.N=x.N)(C:x'.V=x.V)(z:x'.S=x.S)(o:x'.M=x.M):MS w' x0 A n k q x' s :=
 have V:Mv w w' x0 s s (·=x0):=⟨i,G,λb h=>.inl (.inl h),λb h=>.inl h⟩
 have F:=H.b9
 {blk:=E▸l
  mem:=m▸V.CI H.mem λb a e=>H.mx b a (.inl e)
  T:=B▸V.rows lv H.T F.1
  P:=y▸V.rows ny H.P F.2.1
  N:=u▸V.rows fI H.N F.2.2.1
  V:=C▸V.rows je H.V F.2.2.2.1
  S:=z▸V.ints H.S F.2.2.2.2.1
  M:=o▸V.ints H.M F.2.2.2.2.2
  mx:=H.mx
  sm:=H.sm
  cf:=f▸V.cfg H.cf
  hn:=f▸H.hn
  ol:=V.ol H.ol}
theorem MS.more(H:MS w x0 A n k q x s)(f:Below w w w'):MS w' x0 A n k q x s:=H.upd (f.mono (aZ _)) (λb h _=>f.block b h) (H.blk.ah f) rfl rfl rfl rfl rfl rfl rfl rfl rfl
theorem MS.ab5(H:MS w x0 A n k q x s)(l:s.T=.slice g j d){t:Nat}(B:t<x.T.length)(y:Tk)(z:Sh)(C:oh w (s.I w x0) y z):MS (ax w g (t*34) (jA y z)) x0 A n k q {x with T:=x.T.set t y} s/\gV w (ax w g (t*34) (jA y z)) (s.U x0) (s.U x0):=by
 have m:s.X x0 g:=by unfold Sx.X;rw[l];exact .inr (.inl rfl)
 have c:=H.T;rw[l]at c;obtain⟨p,o,_⟩:=aD.ty c;have V:Mv w (ax w g (t*34) (jA y z)) x0 s s (·=g):=⟨az (aZ _) _ _ _ (Below.refl _ _),λb _ h=>aM h _ _,λb h=>.inl (h▸m),λb h=>.inl h⟩
 have u:=(aD.Gm lv c B (jA y z) rfl (List.all_eq_true.1 (by rfl)) (λe=>e.2.2.1 m) ⟨z,rfl,C⟩).mono lv V.mono;have f:∀{e:TypeId} {v:Value} {b:Nat} (_:∃p r,w.heap[b]?=some (.cells p e r)),e≠75->b≠g:=λh i=>h.elim λ_ h=>h.elim λ_ h=>fw h o i;refine⟨⟨aX H.blk (fw H.blk o af) _ _,V.CI H.mem λb a e=>H.mx b a (e▸m),?_,?_,?_,?_,V.ints H.S λb a=>f (dY H.S b a) af (v:=s.S),V.ints H.M λb a=>f (dY H.M b a) af (v:=s.M),H.mx,H.sm,V.cfg H.cf,H.hn,V.ol H.ol⟩,V.fr⟩
 .exact l▸u
 .exact V.rows ny H.P λb a=>f (aD.mA H.P b a) af (v:=s.P)
 .exact V.rows fI H.N λb a=>f (aD.mA H.N b a) af (v:=s.N)
 .exact V.rows je H.V λb a=>f (aD.mA H.V b a) af (v:=s.V)
theorem MS.ZX(H:MS w x0 A n k q x s)(l:s.P=.slice g j d){t:Nat}(C:t<x.P.length)(y:Pm)(z:Sl)(u:dL w (s.I w x0) .i64 z.A y.outs/\y.outs.length<=z.c):MS (ax w g (t*7) (nK y z)) x0 A n k q {x with P:=x.P.set t y} s/\gV w (ax w g (t*7) (nK y z)) (s.U x0) (s.U x0):=by
 have m:s.X x0 g:=by unfold Sx.X;rw[l];exact .inr (.inr (.inl rfl))
 have c:=H.P;rw[l]at c;obtain⟨p,o,_⟩:=aD.ty c;have V:Mv w (ax w g (t*7) (nK y z)) x0 s s (·=g):=⟨az (aZ _) _ _ _ (Below.refl _ _),λb _ h=>aM h _ _,λb h=>.inl (h▸m),λb h=>.inl h⟩
 have B:=(aD.Gm ny c C (nK y z) rfl (List.all_eq_true.1 (by rfl)) (λe=>e.2.2.1 m) ⟨z,rfl,u.1,u.2⟩).mono ny V.mono;have f:∀{e:TypeId} {v:Value} {b:Nat} (_:∃p r,w.heap[b]?=some (.cells p e r)),e≠114->b≠g:=λh i=>h.elim λ_ h=>h.elim λ_ h=>fw h o i;refine⟨⟨aX H.blk (fw H.blk o af) _ _,V.CI H.mem λb a e=>H.mx b a (e▸m),?_,?_,?_,?_,V.ints H.S λb a=>f (dY H.S b a) af (v:=s.S),V.ints H.M λb a=>f (dY H.M b a) af (v:=s.M),H.mx,H.sm,V.cfg H.cf,H.hn,V.ol H.ol⟩,V.fr⟩
 .exact V.rows lv H.T λb a=>f (aD.mA H.T b a) af (v:=s.T)
 .exact l▸B
 .exact V.rows fI H.N λb a=>f (aD.mA H.N b a) af (v:=s.N)
 .exact V.rows je H.V λb a=>f (aD.mA H.V b a) af (v:=s.V)
theorem MS.ab6(H:MS w x0 A n k q x s)(l:s.S=.slice g j d)(t:Nat)(z:Int):MS (w.setCell ⟨g,t,none⟩ z) x0 A n k q {x with S:=x.S.set t z} s/\gV w (w.setCell ⟨g,t,none⟩ z) (s.U x0) (s.U x0):=by
 have r:s.X x0 g:=by unfold Sx.X;rw[l];exact(.inr (.inr (.inr (.inr (.inr (.inl rfl))))))
 have c:=H.S;obtain⟨u,m,o⟩:=dY c g (by rw[l];rfl);rw[l]at c;have V:Mv w (w.setCell ⟨g,t,none⟩ z) x0 s s (·=g):=⟨(Below.refl _ _).setCell (p:=⟨g,t,none⟩) (aZ _) _,λb _ h=>dE _ _ _ _ h,λb h=>.inl (h▸r),λb h=>.inl h⟩
 have f:∀{e:TypeId} {b:Nat} (_:∃u m,w.heap[b]?=some (.cells u e m)),e≠3->b≠g:=λh i=>h.elim λ_ h=>h.elim λ_ h=>fw h o i;have v:=aK.stored c t z;exact⟨{blk:=(dE _ _ _ _ (fw H.blk o af)).trans H.blk,mem:=V.CI H.mem λb a e=>H.mx b a (e▸r),T:=V.rows lv H.T λb a=>f (aD.mA H.T b a) af,P:=V.rows ny H.P λb a=>f (aD.mA H.P b a) af,N:=V.rows fI H.N λb a=>f (aD.mA H.N b a) af,V:=V.rows je H.V λb a=>f (aD.mA H.V b a) af,S:=l▸v,M:=V.ints H.M λb a e=>H.sm g (by rw[l];rfl) (e▸a),mx:=H.mx,sm:=H.sm,cf:=V.cfg H.cf,hn:=H.hn,ol:=V.ol H.ol},V.fr⟩
theorem MS.adg(H:MS w x0 A n k q x s)(l:s.M=.slice g j d)(t:Nat)(z:Int):MS (w.setCell ⟨g,t,none⟩ z) x0 A n k q {x with M:=x.M.set t z} s/\gV w (w.setCell ⟨g,t,none⟩ z) (s.U x0) (s.U x0):=by
 have r:s.X x0 g:=by unfold Sx.X;rw[l];exact(.inr (.inr (.inr (.inr (.inr (.inr rfl))))))
 have c:=H.M;obtain⟨u,m,o⟩:=dY c g (by rw[l];rfl);rw[l]at c;have V:Mv w (w.setCell ⟨g,t,none⟩ z) x0 s s (·=g):=⟨(Below.refl _ _).setCell (p:=⟨g,t,none⟩) (aZ _) _,λb _ h=>dE _ _ _ _ h,λb h=>.inl (h▸r),λb h=>.inl h⟩
 have f:∀{e:TypeId} {b:Nat} (_:∃u m,w.heap[b]?=some (.cells u e m)),e≠3->b≠g:=λh i=>h.elim λ_ h=>h.elim λ_ h=>fw h o i;have v:=aK.stored c t z;exact⟨{blk:=(dE _ _ _ _ (fw H.blk o af)).trans H.blk,mem:=V.CI H.mem λb a e=>H.mx b a (e▸r),T:=V.rows lv H.T λb a=>f (aD.mA H.T b a) af,P:=V.rows ny H.P λb a=>f (aD.mA H.P b a) af,N:=V.rows fI H.N λb a=>f (aD.mA H.N b a) af,V:=V.rows je H.V λb a=>f (aD.mA H.V b a) af,M:=l▸v,S:=V.ints H.S λb a e=>H.sm b a (by rw[e,l];rfl),mx:=H.mx,sm:=H.sm,cf:=V.cfg H.cf,hn:=H.hn,ol:=V.ol H.ol},V.fr⟩
theorem MS.adh(H:MS w x0 A n k q x s)(u:Below 0 w w1)(l:∀b,b<w.heap.size->s.N.ownBlock≠some b->w1.heap[b]?=w.heap[b]?){y:Nt}(i:aD 66 13 SB w1 0 (s.I w x0) v' (x.N++[y]))(hf:∀b,v'.ownBlock=some b->s.N.ownBlock=some b\/w.heap.size<=b):MS (w1.setCell ⟨x0,14,none⟩ v') x0 A n k q {x with N:=x.N++[y]} {s with N:=v'}/\gV w (w1.setCell ⟨x0,14,none⟩ v') (s.U x0) (Sx.U {s with N:=v'} x0):=by
 have j:∀b,Sx.X {s with N:=v'} x0 b->s.X x0 b\/w.heap.size<=b:=by exact ab7
 have f:ag w1 x0 86 _:=(l x0 H.blk.lt (λe=>(H.b9.2.2.1) x0 e rfl)).trans H.blk;have V:Mv w (w1.setCell ⟨x0,14,none⟩ v') x0 s {s with N:=v'} (λb=>b=x0\/s.N.ownBlock=some b):=⟨u.setCell (p:=⟨x0,14,none⟩) (aZ _) _,λb m g=>(dE _ _ _ _ (λe=>g (.inl e))).trans (l b m λe=>g (.inr e)),λb h=>h.elim (λh=>.inl (.inl h)) λh=>.inl (.inr (.inr (.inr (.inl h)))),λb h=>h.elim (λh=>(j b h).imp .inl id) λh=>.inl (.inr h)⟩
 have d:∀b,v'.ownBlock=some b->b≠x0:=λb a=>(aD.mA i b a).elim λ_ h=>h.elim λ_ h=>fw h f af;have o:aD 66 13 SB (w1.setCell ⟨x0,14,none⟩ v') 0 (Sx.I {s with N:=v'} (w1.setCell ⟨x0,14,none⟩ v') x0) v' (x.N++[y]):=(i.move fI (λb h=>dE _ _ _ _ λe=>h.2.2.1 (.inl e)) λb a=>dE _ _ _ _ (d b a)).mono fI V.mono
 exact⟨{blk:=f.bp 14 v',mem:=V.CI H.mem λb a e=>H.mx b a (e.elim (λe=>.inl e) λe=>(.inr (.inr (.inr (.inl e))))),N:=o,T:=V.rows lv H.T λb a e=>e.elim (H.b9.1 b a) λe=>(aD.mA H.T b a).elim λ_ h=>h.elim λ_ h=>(aD.mA H.N b e).elim λ_ c=>c.elim λ_ c=>fw h c af rfl,P:=V.rows ny H.P λb a e=>e.elim (H.b9.2.1 b a) λe=>(aD.mA H.P b a).elim λ_ h=>h.elim λ_ h=>(aD.mA H.N b e).elim λ_ c=>c.elim λ_ c=>fw h c af rfl,V:=V.rows je H.V λb a e=>e.elim (H.b9.2.2.2.1 b a) λe=>(aD.mA H.V b a).elim λ_ h=>h.elim λ_ h=>(aD.mA H.N b e).elim λ_ c=>c.elim λ_ c=>fw h c af rfl,S:=V.ints H.S λb a e=>e.elim (H.b9.2.2.2.2.1 b a) λe=>(dY H.S b a).elim λ_ h=>h.elim λ_ h=>(aD.mA H.N b e).elim λ_ c=>c.elim λ_ c=>fw h c af rfl,M:=V.ints H.M λb a e=>e.elim (H.b9.2.2.2.2.2 b a) λe=>(dY H.M b a).elim λ_ h=>h.elim λ_ h=>(aD.mA H.N b e).elim λ_ c=>c.elim λ_ c=>fw h c af rfl,mx:=λb a h=>(j b h).elim (H.mx b a) λh=>by have:=H.mem.lt a;omega,sm:=H.sm,cf:=V.cfg H.cf,hn:=H.hn,ol:=V.ol H.ol},V.fr⟩
theorem MS.adi(H:MS w x0 A n k q x s)(u:Below 0 w w1)(l:∀b,b<w.heap.size->s.V.ownBlock≠some b->w1.heap[b]?=w.heap[b]?){y:Tn}(i:aD 80 3 Xw w1 0 (s.I w x0) v' (x.V++[y]))(z:∀b,v'.ownBlock=some b->s.V.ownBlock=some b\/w.heap.size<=b):MS (w1.setCell ⟨x0,15,none⟩ v') x0 A n k q {x with V:=x.V++[y]} {s with V:=v'}/\gV w (w1.setCell ⟨x0,15,none⟩ v') (s.U x0) (Sx.U {s with V:=v'} x0):=by
 have j:∀b,Sx.X {s with V:=v'} x0 b->s.X x0 b\/w.heap.size<=b:=by
  rintro b (h|h|h|h|h|h|h)
  .exact .inl (.inl h)
  .exact .inl (.inr (.inl h))
  .exact .inl (.inr (.inr (.inl h)))
  .exact .inl (.inr (.inr (.inr (.inl h))))
  .exact(z b h).imp (λh=>(.inr (.inr (.inr (.inr (.inl h)))))) id
  .exact .inl (.inr (.inr (.inr (.inr (.inr (.inl h))))))
  .exact .inl (.inr (.inr (.inr (.inr (.inr (.inr h))))))
 have f:ag w1 x0 86 _:=(l x0 H.blk.lt (λe=>(H.b9.2.2.2.1) x0 e rfl)).trans H.blk;have V:Mv w (w1.setCell ⟨x0,15,none⟩ v') x0 s {s with V:=v'} (λb=>b=x0\/s.V.ownBlock=some b):=⟨u.setCell (p:=⟨x0,15,none⟩) (aZ _) _,λb m g=>(dE _ _ _ _ (λe=>g (.inl e))).trans (l b m λe=>g (.inr e)),λb h=>h.elim (λh=>.inl (.inl h)) λh=>.inl (.inr (.inr (.inr (.inr (.inl h))))),λb h=>h.elim (λh=>(j b h).imp .inl id) λh=>.inl (.inr h)⟩
 have d:∀b,v'.ownBlock=some b->b≠x0:=λb a=>(aD.mA i b a).elim λ_ h=>h.elim λ_ h=>fw h f af;have o:aD 80 3 Xw (w1.setCell ⟨x0,15,none⟩ v') 0 (Sx.I {s with V:=v'} (w1.setCell ⟨x0,15,none⟩ v') x0) v' (x.V++[y]):=(i.move je (λb h=>dE _ _ _ _ λe=>h.2.2.1 (.inl e)) λb a=>dE _ _ _ _ (d b a)).mono je V.mono
 exact⟨{blk:=f.bp 15 v',mem:=V.CI H.mem λb a e=>H.mx b a (e.elim (λe=>.inl e) λe=>(.inr (.inr (.inr (.inr (.inl e)))))),V:=o,T:=V.rows lv H.T λb a e=>e.elim (H.b9.1 b a) λe=>(aD.mA H.T b a).elim λ_ h=>h.elim λ_ h=>(aD.mA H.V b e).elim λ_ c=>c.elim λ_ c=>fw h c af rfl,P:=V.rows ny H.P λb a e=>e.elim (H.b9.2.1 b a) λe=>(aD.mA H.P b a).elim λ_ h=>h.elim λ_ h=>(aD.mA H.V b e).elim λ_ c=>c.elim λ_ c=>fw h c af rfl,N:=V.rows fI H.N λb a e=>e.elim (H.b9.2.2.1 b a) λe=>(aD.mA H.N b a).elim λ_ h=>h.elim λ_ h=>(aD.mA H.V b e).elim λ_ c=>c.elim λ_ c=>fw h c af rfl,S:=V.ints H.S λb a e=>e.elim (H.b9.2.2.2.2.1 b a) λe=>(dY H.S b a).elim λ_ h=>h.elim λ_ h=>(aD.mA H.V b e).elim λ_ c=>c.elim λ_ c=>fw h c af rfl,M:=V.ints H.M λb a e=>e.elim (H.b9.2.2.2.2.2 b a) λe=>(dY H.M b a).elim λ_ h=>h.elim λ_ h=>(aD.mA H.V b e).elim λ_ c=>c.elim λ_ c=>fw h c af rfl,mx:=λb a h=>(j b h).elim (H.mx b a) λh=>by have:=H.mem.lt a;omega,sm:=H.sm,cf:=V.cfg H.cf,hn:=H.hn,ol:=V.ol H.ol},V.fr⟩
theorem MS.J7(H:MS w x0 A n k q x s){q':Nat}{i:Mm}(F:cP w w' p s.m i)(m:w.heap.size<=p)(l:xz w' i L q'):MS w' x0 A n k q' {x with L:=L} {s with m:=i}/\gV w w' (s.U x0) (Sx.U {s with m:=i} x0):=by
 have V:Mv w w' x0 s {s with m:=i} s.m.own:=⟨F.lS,λb c d=>F.same b c aa d,λb h=>.inr h,λb h=>h.elim (λh=>.inl (.inl h)) λh=>(F.own b h).imp .inr id⟩
 have f:∀b,s.X x0 b->¬s.m.own b:=λb h e=>H.mx b e h;refine⟨{blk:=?_,mem:=l,T:=V.rows lv H.T λb a=>f b (.inr (.inl a)),P:=V.rows ny H.P λb a=>f b (.inr (.inr (.inl a))),N:=V.rows fI H.N λb a=>f b (.inr (.inr (.inr (.inl a)))),V:=V.rows je H.V λb a=>f b (.inr (.inr (.inr (.inr (.inl a))))),S:=V.ints H.S λb a=>f b (.inr (.inr (.inr (.inr (.inr (.inl a)))))),M:=V.ints H.M λb a=>f b (.inr (.inr (.inr (.inr (.inr (.inr a)))))),mx:=λb a h=>(F.own b a).elim (λe=>H.mx b e h) λe=>by have:=H.ul (.inl h);omega,sm:=H.sm,cf:=V.cfg H.cf,hn:=H.hn,ol:=V.ol H.ol},V.fr⟩;have h:=(V.same x0 H.blk.lt (f x0 (.inl rfl))).trans H.blk;unfold om at h ⊢;dsimp only;rw[F.g];exact h
end
variable[OW]
section
variable{q:Nat}{s:Sx}
theorem rR(H:MS w x0 A n k q x s):Calls prog 26 #[.pointer x0] w λe w'=>e=.returned true/\w=w':=by have a:=λi=>ag.cell H.blk i;unfold om at a;clear H;go_enter func26,ntmps26;go_wp2;go_ret;exact⟨rfl,rfl⟩
theorem Bx(H:MS w x0 A n k q x s)(t:Int):Calls prog 39 #[.pointer x0,t] w λe w'=>e=.returned (decide (0<=t/\t<x.T.length))/\w=w':=by
 have g:=ae (rR H);obtain⟨B,d,l⟩:=aD.shape H.T;have a:=λi=>ag.cell H.blk i;unfold om at a;rw[l]at a;generalize x.T.length=j at a ⊢;have m:=H.blk.lt;clear H l;by_cases c:0<=t
 .have f:decide (0<=t)=true:=cg c;go_enter func39,ntmps39;go_wp2_with fail;refine g.mono ?_;rintro e w' ⟨rfl,rfl⟩;go_wp2;go_ret;refine⟨?_,rfl⟩;simp[c]
 .have f:decide (0<=t)=false:=bF c;go_enter func39,ntmps39;go_wp2_with fail;refine g.mono ?_;rintro e w' ⟨rfl,rfl⟩;go_wp2;go_ret;exact⟨congrArg (λb=>Ending.returned (.bool b)) (bF (λh=>by omega)).symm,rfl⟩
end
theorem jY(w:World)(q:Rq)(z:Sl)(u:q.cases.length<=1000000)(y:cN w bj z.A q.cases):Calls prog 44 #[.agg (nS q z).toArray] w λe w'=>∃F,e=.returned (.agg (nS q F).toArray)/\uq w w' q F/\Below w w w':=by
 obtain⟨A,d⟩:=z;have t:=ae (λE (R:Below w w E)=>qL E A d q.cases rfl u (y.below R));unfold nS;dsimp only at *;clear y;obtain⟨c,a⟩:=aw ((w.alloc (lQ q A q.cases.length d)).alloc XQ);have j:Hid (Below w w c):=by rw[a];exact aj (aj (ai w) _) _
 have p:Hid (ag c w 38 ([q.kind,q.arg,q.value,q.dflt,.slice A q.cases.length d]:VL).toArray):=by rw[a];exact(ag.new _ _ _).alloc _
 have n:Hid (ag c (w.heap.size+1) 38 ([oZ,oZ,oZ,false,oN]:VL).toArray):=by rw[a];exact ag.newAt _ _ _ aA
 have D:=ae a;clear a;go_enter func44,ntmps44;go_upto_region 1 with fail
 rw[<-D.Y];clear D;obtain⟨f,-,k⟩:=ag.aF p;go_wp2_with fail;go_fit (t _ j);rintro e o ⟨B,m,rfl,s,(C:Hid _),b⟩;obtain⟨I,x,L,H,G⟩:=bQ (p.ah b) (n.ah b) (ah j b) s n.lt;clear b s f k p n j t;obtain⟨f,J,k⟩:=ag.aF I;obtain⟨K,M,N⟩:=ag.aF x;go_wp2_with fail;have u:=G.Y;have r:∀l:Nat,l<c.heap.size->∀g,(Value.slice B q.cases.length m).ownBlock=some g->g≠l:=λl h g S=>by have:=(bk C S).1;omega
 have h1:=eV (r (w.heap.size+1) u) ([q.kind,q.arg,q.value,q.dflt,.slice B q.cases.length m]:VL) _ 0 _ (eV (r w aa) [.slice B q.cases.length m] _ 4 _ C);have Q:=aY (vs:=([q.kind,q.arg,q.value,q.dflt,.slice B q.cases.length m]:VL)) (cs:=([oZ,oZ,oZ,false,oN]:VL)) (aX x (show w.heap.size+1≠w by omega) [.slice B q.cases.length m] 4) rfl;have P:Below w w (ax (ax o w 4 [.slice B q.cases.length m]) (w.heap.size+1) 0 ([q.kind,q.arg,q.value,q.dflt,.slice B q.cases.length m]:VL)):=az (bM _) _ _ _ (az (aR _) _ _ _ L);change bodyPost _ _ _ _ _ (ax (ax o w 4 [.slice B q.cases.length m]) (w.heap.size+1) 0 ([q.kind,q.arg,q.value,q.dflt,.slice B q.cases.length m]:VL));clear K M N f J k;generalize ax (ax o w 4 [.slice B q.cases.length m]) (w.heap.size+1) 0 ([q.kind,q.arg,q.value,q.dflt,.slice B q.cases.length m]:VL)=T at *;have O:=λi=>ag.cell Q i;refine bodyPost_ret (v:=.agg (#[q.kind,q.arg,q.value,q.dflt,.slice B q.cases.length m]:VA)) (by simp[results,results44,go_sem,O]) rfl ?_;refine⟨⟨B,m⟩,rfl,⟨⟨(aH.xS h1).2,λad ha _=>?_⟩,H⟩,P⟩;exact Rl
end Go.Proofs.YtpfbfhfcbdbglaaGreat
