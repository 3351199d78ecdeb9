/- Walks and plain facts. No condition. -/
import Derived.Test.YtjcjjiieblineaaGreatPg
import Derived.Test.YtjcjjiieblineaaGreatPt
namespace Go.Proofs.YtjcjjiieblineaaGreat
open Go.RowKit Go.Proofs.Tryz Mo
set_option maxHeartbeats 8000000
set_option maxRecDepth 100000
set_option linter.all false
variable {w w' w1:World}{α:Type}{base t p:Nat}{S:Nat->Prop}{a:Act}{Q:Exit->Act->World->Prop}{ops:Array Oper}{o:Oper}{v':Value}{E:Prop}
variable[OW]
theorem af.rM{d:World}{g:Nat}{t:TypeId}{cs:Array Value}(h:af w g t cs)(e:d.heap[g]?=w.heap[g]?):af d g t cs:=e.trans h
theorem oI{P:Program}{K:Act->World->Prop}(j:o.guard=none)(s x:Operand)(t:TypeId)(I:o.op=.call {callee:=.builtin .append,args:=#[s,x],argTypes:=#[t,t]})(e:TypeId)(m bytes:Nat)(z:Value){Pe:sU α}(g:Good Pe)(M:P.underlying t=some (.slice e))(F:(P.info? e).map (fun i=>(i.zero,i.size,i.bytes))=some (some z,m,bytes))(l:z.cells.size=m)(H:0<m)(v:Value)(f:List α)(L:a.eval s=v)(hown:aI e m Pe w 0 S v f)(r:∀b,S b->b<w.heap.size/\v.ownBlock≠some b)(A:Option Addr)(c:Nat)(vs:List Value)(G:vs.length=m)(B:∀u∈vs,u.oneCell'=true)(N:a.eval x=.slice A 1 c)(J:Rd w A vs){y:α}(O:Pe w S vs y)(d:(f.length+1)*bytes<=140737488355328)(D:f.length<=1000000)(h:∀v' w',aI e m Pe w' 0 S v' (f++[y])->w.grownBy w' v.ownBlock->(v'.ownBlock=v.ownBlock\/v'.ownBlock=some w.heap.size)->K (a.put o.dst v') w') :
 if Region.wanted o (yielded ops a.tmps)=true then Oper.wp P o a w K Q else E:=by
 obtain⟨rows,k,R,T⟩:=hown
 refine mh j s x t I 0 e m bytes z eA b9 fX M F l H v rows L R A 1 c [⟨vs,G,B⟩] N rfl (by unfold dI;simpa[eA]using J) (by rw[k];exact d) (by rw[k];simp;omega) (aV _) ?_
 intro v' w' q p C
 have n:Sm S w w':=fun b d=>p.block b (r b d).1 fun e=>(r b d).2 e.symm
 exact h v' w' (aI.app g k T n q (g.same n O)) p C
section
variable{w:World} {x0:Nat} {A:Option Addr} {n k q:Nat} {x:Mo.Mc} {s:Sx}
def zQ(d:Nat)(A:Option Addr)(n k q:Nat)(f:Mc)(w:World)(s:Sx)(e:World):Prop:=∃a,MS e d A n k q f a/\gw w e (s.U d) (a.U d)
theorem MS.aeV{b:Nat}(h:s.I w x0 b):b<w.heap.size/\s.N.ownBlock≠some b:=⟨h.1,fun e=>h.2.2.1 (.inr (.inr (.inr (.inl e))))⟩
theorem MS.adm(H:MS w x0 A n k q x s){y:Nt}(d:aI 93 13 Te w1 0 (s.I w x0) v' (x.N++[y]))(c:w.grownBy w1 s.N.ownBlock)(f:v'.ownBlock=s.N.ownBlock\/v'.ownBlock=some w.heap.size) :
 MS (w1.setCell ⟨x0,14,none⟩ v') x0 A n k q {x with N:=x.N++[y]} {s with N:=v'}/\gw w (w1.setCell ⟨x0,14,none⟩ v') (s.U x0) (Sx.U {s with N:=v'} x0):=by
 obtain⟨rows,h,g,i⟩:=H.N
 exact H.aeT (aH.bh g (Below.refl 0 w) c (aV _) (aS _)) (fun b a hn=>c.block b a fun e=>hn e.symm) d fun b a=>f.elim (fun e=>.inl (e▸a)) fun e=>.inr (by rw[a]at e;injection e with e;omega)
theorem MS.task(H:MS w x0 A n k q x s)(f:t<x.T.length):∃g d z,s.T=.slice (some ⟨g,0,none⟩) x.T.length d/\g<w.heap.size/\s.X x0 g/\nU w (s.I w x0) (bm x t) z/\(∀i v,(iK (bm x t) z)[i]?=some v->w.cell? ⟨g,t*34+i,none⟩=some v)/\∀i,w.frozen? ⟨g,i,none⟩=false:=by obtain⟨g,d,b,_,j⟩:=aI.form H.T (by rintro e;rw[e]at f;exact absurd f (Nat.not_lt_zero _));have a:=H.T;rw[b]at a;obtain⟨r,c,m,h⟩:=aI.at_ a (om f);obtain⟨z,rfl,l⟩:=c;exact⟨g,d,z,b,j,.inr (.inl (by rw[b];rfl)),l,h,fun i=>aI.cR a i⟩
def Yt(d:World)(y:Nt)(e:Value)(c:World):Prop:=∃g z,e=.pointer (some ⟨g,0,none⟩)/\d.heap.size<=g/\af c g 93 (zl y z).toArray/\dG c (fun b=>d.heap.size<=b/\b<c.heap.size/\b≠g) bC z.A y.aN.cases/\Ext d c
theorem Kg(H:MS w x0 A n k q x s)(D:Int)(t:Nat)(ht:t<x.T.length)(r:Rs)(hq:(bm x t).aN.cases.length<=1000000)(hN:x.N.length<=1000000):Calls prog 75 #[.pointer x0,D,t,.agg #[r.seq,r.cs,r.code,r.value]] w fun e w'=>e=.returned (.tuple #[])/\zQ x0 A n k q {x with N:=x.N++[⟨D,t,(bm x t).seq,x.time,(bm x t).aN,if D=1 then dD else r⟩]} w s w':=by
 obtain⟨g,d,z,hv,hg,aq,hz,R,_⟩:=H.task ht;have qW:=ae (fun f (m:Below w w f)=>jZ f (bm x t).aN z.cs hq (hz.cs.1.below m));generalize bm x t=K at qW R ⊢;obtain⟨yy,a7⟩:∃yy:Nt,yy=⟨D,t,K.seq,x.time,K.aN,if D=1 then dD else r⟩:=⟨_,rfl⟩
 rw[<-a7];have bo:=ae a7;clear a7;have h1:=R 1 _ rfl;have h2:=R 2 _ rfl;have h3:=R 3 _ rfl;have h4:=R 4 _ rfl;have h5:=R 5 _ rfl;have h6:=R 6 _ rfl;unfold mW at qW;generalize x.T.length=j at hv ht;have G:Hid (Below w w (w.alloc (qX r.seq r.cs r.code r.value))):=ak (aj w) _;have iT:Hid (af (w.alloc (qX r.seq r.cs r.code r.value)) w 48 #[r.seq,r.cs,r.code,r.value]):=af.new _ _ _;obtain⟨V,HX⟩:=av (fun(f:World) (m:Below w w f) (a:Addr) (v:Value) (h:w.cell? a=some v)=>(Below.cell m (bb h)).trans h) (fun(f:World) (m:Below w w f)=>H.more m);have HL:Hid (w.heap.size<(w.alloc (qX r.seq r.cs r.code r.value)).heap.size):=by unfold Hid;simp
 obtain⟨HV,VK⟩:=av hv hN;clear R aq hz hN H hq;go_enter func75,ntmps75;go_wp2_with fail;generalize w.alloc (qX r.seq r.cs r.code r.value)=u at *;have aT:=fun f (E:Ext u f) i=>af.cell (HX f (ai G E.Y)).blk i;unfold nW at aT;rw[HV.Y]at aT;have Y:=ae (fun f (E:Ext u f)=>qW f (ai G E.Y));have a1:=fun f (E:Ext u f)=>V f (ai G E.Y) _ _ h1;have a2:=fun f (E:Ext u f)=>V f (ai G E.Y) _ _ h2;have a3:=fun f (E:Ext u f)=>V f (ai G E.Y) _ _ h3;have a4:=fun f (E:Ext u f)=>V f (ai G E.Y) _ _ h4;have a5:=fun f (E:Ext u f)=>V f (ai G E.Y) _ _ h5;have a6:=fun f (E:Ext u f)=>V f (ai G E.Y) _ _ h6;clear h1 h2 h3 h4 h5 h6 V;go_cut[8] (fun s8 f=>Yt u ⟨D,t,K.seq,x.time,K.aN,dD⟩ s8 f);case first =>
  refine wp_region_held_drew (S:=(Ext u)) (by kernel_rfl) (Ext.start _) (fun c=>?_);refine aP 0 c ?_;refine aP 1 c ?_;refine aP 2 c ?_;refine aP 3 c ?_;refine aP 4 c ?_;refine aP 5 c ?_;refine aP 6 c ?_;refine aP 7 c ?_;refine aP 8 c ?_;refine aP 9 c ?_;refine aP 10 c ?_;refine aP 11 c ?_;refine aP 12 c ?_;refine aP 13 c ?_;refine aP 14 c ?_;refine aP 15 c ?_;refine aP 16 c ?_;refine aP 17 c ?_;refine aP 18 c ?_;refine aP 19 c ?_;refine aP 20 c ?_;refine aP 21 c ?_;(try simp only[aC]);refine wpAnyH_ready (rs:=[22,24]) (by kernel_rfl) aD ?_;refine(AllReadyH.cons (o:=⟨some 31,_,_,_,_,_⟩) rfl (fun K l=>?_) (AllReadyH.cons (o:=⟨some 8,_,_,_,_,_⟩) rfl (fun K l=>?_) AllReadyH.nil));go_simp;((with_reducible go_fit (Y.Y _ bc));rintro e J ⟨⟨p,B⟩,rfl,ho,I⟩;have xg:Ext u J:=Ext.to bc I;(try have Q:=(af.kv (af.new u _ _)).ai I);(try have rL:=fun i=>af.cell Q i);(try have P:=fun i=>af.free Q i);(try have Er:=Q.lt));go_wp2_with fail;refine l.Y _ _ (Bp) (fun c=>?_);clear l K;(try simp only[aC]);refine aP 23 c ?_;(try simp only[aC]);refine et 24 (fun K l=>?_);go_simp;refine l.Y _ _ (Bp) (fun c=>?_);clear l K;(try simp only[aC]);refine et 25 (fun K l=>?_);go_simp;refine l.Y _ _ (Bp) (fun c=>?_);clear l K;(try simp only[aC]);refine wpAnyH_done (by kernel_rfl) ?_ _;rotate_left;go_simp;refine l.Y _ _ (Bp) (fun c=>?_);clear l K;(try simp only[aC]);refine et 22 (fun K l=>?_);go_simp;((with_reducible go_fit (Y.Y _ bc));rintro e J ⟨⟨p,B⟩,rfl,ho,I⟩;have xg:Ext u J:=Ext.to bc I;(try have Q:=(af.kv (af.new u _ _)).ai I);(try have rL:=fun i=>af.cell Q i);(try have P:=fun i=>af.free Q i);(try have Er:=Q.lt));go_wp2_with fail;refine l.Y _ _ (Bp) (fun c=>?_);clear l K;(try simp only[aC]);refine aP 23 c ?_;(try simp only[aC]);refine et 25 (fun K l=>?_);go_simp;refine l.Y _ _ (Bp) (fun c=>?_);clear l K;(try simp only[aC]);refine wpAnyH_done (by kernel_rfl) ?_ _;rotate_left
  ·go_wp2;go_meet;have Ad:af (J.alloc (.cells (zl ⟨D,t,K.seq,x.time,K.aN,dD⟩ ⟨p,B⟩).toArray 93)) J 93 (zl ⟨D,t,K.seq,x.time,K.aN,dD⟩ ⟨p,B⟩).toArray:=af.new _ _ _;exact⟨_,⟨p,B⟩,rfl,xg.Y.size,Ad,(ho.1.same fun b m=>(ak (aj J) _).block b m.2).mono fun b m=>⟨m.1,by simp;omega,by have:=m.2;omega⟩,Ext.alloc xg _⟩
  ·clear rL P Er;go_wp2_with fail;have hQ:=aQ (vs:=[D,t,K.seq,x.time,K.aN.kind,K.aN.arg,K.aN.value,K.aN.dflt,.slice p K.aN.cases.length B,oZ,oZ,oZ,oZ]) (cs:=[oZ,oZ,oZ,oZ,oZ,oZ,oZ,false,oN,oZ,oZ,oZ,oZ]) Q rfl;have yA:Ext u (aw J u 0 [D,t,K.seq,x.time,K.aN.kind,K.aN.arg,K.aN.value,K.aN.dflt,.slice p K.aN.cases.length B,oZ,oZ,oZ,oZ]):=ax (aS _) _ _ _ xg.Y;have JU:dG (aw J u 0 [D,t,K.seq,x.time,K.aN.kind,K.aN.arg,K.aN.value,K.aN.dflt,.slice p K.aN.cases.length B,oZ,oZ,oZ,oZ]) (fun b=>u.heap.size<=b/\b<(aw J u 0 [D,t,K.seq,x.time,K.aN.kind,K.aN.arg,K.aN.value,K.aN.dflt,.slice p K.aN.cases.length B,oZ,oZ,oZ,oZ]).heap.size/\b≠u.heap.size) bC p K.aN.cases:=(ho.1.same fun b m=>aO (by have:=m.1;simp at this;omega) _ 0).mono fun b m=>⟨by have:=m.1;simp at this;omega,by rw[bH];exact m.2,by have:=m.1;simp at this;omega⟩
   change Met _ _ (aw J u 0 [D,t,K.seq,x.time,K.aN.kind,K.aN.arg,K.aN.value,K.aN.dflt,.slice p K.aN.cases.length B,oZ,oZ,oZ,oZ]);generalize aw J u 0 [D,t,K.seq,x.time,K.aN.kind,K.aN.arg,K.aN.value,K.aN.dflt,.slice p K.aN.cases.length B,oZ,oZ,oZ,oZ]=w5 at *;go_meet;exact⟨_,⟨p,B⟩,rfl,aS _,hQ,JU,yA⟩
 case rest =>
  obtain⟨C,⟨p,B⟩,rfl,Er,F,Z,O⟩:=hcut;clear a1 a2 a3 a4 a5 a6 aT Y qW HV hv;have bR:=iT.ai O.Y;have b8:=HL.Y;have rL:=fun i=>af.cell F i;have P:=fun i=>af.free F i;have xu:=F.lt;obtain⟨kM,-,b6⟩:=af.aM bR;unfold zl at rL;by_cases hk:D=1;case' pos =>
   have bz:(D !=1)=false:=by rw[hk];rfl
   have M:=ae hk;clear hk;go_upto_region 4 with fail
   obtain⟨W,L⟩:=aG wc;rw[<-L];obtain⟨y,T⟩:∃y:Nt,y=⟨D,t,K.seq,x.time,K.aN,dD⟩:=⟨_,rfl⟩
   have U:Hid (af W C 93 (zl y ⟨p,B⟩).toArray):=by rw[L,T];exact F
   have bg:Hid (y=yy):=by unfold Hid;rw[bo.Y,au M.Y,T]
   have a8:Hid (dG W (fun b=>u.heap.size<=b/\b<W.heap.size/\b≠C) bC p y.aN.cases):=by rw[L,T];exact Z
   have N:Hid (Ext u W):=by rw[L];exact O
  case' neg =>
   have bz:(D !=1)=true:=by simpa using hk
   have M:=ae hk;clear hk;go_upto_region 4 with fail
   change Code.wp _ _ _ _ (aw wc C 9 [r.seq,r.cs,r.code,r.value]);obtain⟨W,L⟩:=aG (aw wc C 9 [r.seq,r.cs,r.code,r.value]);rw[<-L];obtain⟨y,T⟩:∃y:Nt,y=⟨D,t,K.seq,x.time,K.aN,r⟩:=⟨_,rfl⟩
   have U:Hid (af W C 93 (zl y ⟨p,B⟩).toArray):=by rw[L,T];exact(((F.bj 9 _).bj 10 _).bj 11 _).bj 12 _
   have bg:Hid (y=yy):=by unfold Hid;rw[bo.Y,ah M.Y,T]
   have a8:Hid (dG W (fun b=>u.heap.size<=b/\b<W.heap.size/\b≠C) bC p y.aN.cases):=by rw[L,T];exact(Z.same fun b m=>aO m.2.2 _ 9).mono fun b m=>⟨m.1,by rw[bH];exact m.2.1,m.2.2⟩
   have N:Hid (Ext u W):=by rw[L];exact ax Er _ _ _ O
  all_goals
   clear rL P xu kM b6 bR bz F Z O L T M;have Ak:C<W.heap.size:=U.lt;have E8:Hid (MS (W.drew.alloc (.cells #[y.kind,y.th,y.seq,y.time,y.aN.kind,y.aN.arg,y.aN.value,y.aN.dflt,.slice p y.aN.cases.length B,y.res.seq,y.res.cs,y.res.code,y.res.value] 93)) x0 A n k q x s):=HX.Y _ (ak (ai G N) _).drew;have X:=HX.Y _ (ai G N).drew;have b7:W.drew.cell? ⟨x0,14,none⟩=some s.N:=X.blk.cell 14;have cv:(W.drew.alloc (.cells #[y.kind,y.th,y.seq,y.time,y.aN.kind,y.aN.arg,y.aN.value,y.aN.dflt,.slice p y.aN.cases.length B,y.res.seq,y.res.cs,y.res.code,y.res.value] 93)).cell? ⟨x0,14,none⟩=some s.N:=E8.blk.cell 14;have ct:W.cell? ⟨x0,14,none⟩=some s.N:=b7;have cn:x0<W.heap.size:=X.blk.lt;have HU:Hid (∀b,s.U x0 b->b<w.heap.size):=fun b m=>(HX w (aj w)).ul m;have bY:Hid (∀b,OW.O b->b<w.heap.size):=fun b m=>((HX w (aj w)).ol b m).1;have aq:C≠x0:=by have:=HU.Y x0 (.inl (.inl rfl));omega
   have Dg:Hid (∀b,w.heap.size<b->some b≠s.N.ownBlock):=fun b m e=>by have:=HU.Y b (.inl (.inr (.inr (.inr (.inl e.symm)))));omega
   have b5:Hid (dG (W.drew.alloc (.cells #[y.kind,y.th,y.seq,y.time,y.aN.kind,y.aN.arg,y.aN.value,y.aN.dflt,.slice p y.aN.cases.length B,y.res.seq,y.res.cs,y.res.code,y.res.value] 93)) (s.I (W.drew.alloc (.cells #[y.kind,y.th,y.seq,y.time,y.aN.kind,y.aN.arg,y.aN.value,y.aN.dflt,.slice p y.aN.cases.length B,y.res.seq,y.res.cs,y.res.code,y.res.value] 93)) x0) bC p y.aN.cases):=(a8.same fun b m=>(ak (aj W) _).drew.block b m.2.1).mono fun b m=>⟨by simp;omega,fun e=>by have:=HU.Y b (.inr e);omega,fun e=>by have:=HU.Y b (.inl e);omega,fun e=>by have:=bY.Y b e;omega⟩
   have qu:Hid (Rd (W.drew.alloc (.cells #[y.kind,y.th,y.seq,y.time,y.aN.kind,y.aN.arg,y.aN.value,y.aN.dflt,.slice p y.aN.cases.length B,y.res.seq,y.res.cs,y.res.code,y.res.value] 93)) W (zl y ⟨p,B⟩)):=Rd.lit W (zl y ⟨p,B⟩) 93;have rL:=fun(f:World) (E:f.heap[C]?=W.heap[C]?) i=>af.cell (af.rM U E) i;unfold zl at rL;clear X;refine wp_region_held_drew (S:=fun f:World=>f.heap[C]?=W.heap[C]?) (by kernel_rfl) rfl (fun c=>?_);refine aP 0 c ?_;refine aP 1 c ?_;refine aP 2 c ?_;refine aP 3 c ?_;refine aP 5 c ?_;(try simp only[aC]);refine wpAnyH_ready (rs:=[4,6]) (by kernel_rfl) aD ?_;refine(AllReadyH.cons (o:=⟨some 41,_,_,_,_,_⟩) rfl (fun K l=>?_) (AllReadyH.cons (o:=⟨some 43,_,_,_,_,_⟩) rfl (fun K l=>?_) AllReadyH.nil));go_simp;refine l.Y _ _ (by first|assumption|exact(ak (aj W) _).drew.block C Ak) (fun c=>?_);clear l K;(try simp only[aC]);refine et 6 (fun K l=>?_);go_simp;refine l.Y _ _ (by first|assumption|exact(ak (aj W) _).drew.block C Ak) (fun c=>?_);clear l K;(try simp only[aC]);rotate_left;go_simp;refine l.Y _ _ (by first|assumption|exact(ak (aj W) _).drew.block C Ak) (fun c=>?_);clear l K;(try simp only[aC]);refine et 4 (fun K l=>?_);go_simp;refine l.Y _ _ (by first|assumption|exact(ak (aj W) _).drew.block C Ak) (fun c=>?_);clear l K;(try simp only[aC]);all_goals
    refine et 7 (fun K l=>?_);refine oI rfl _ _ 76 rfl 93 13 120 _ fx underlying76 oV rfl ag _ x.N rfl E8.N (fun b h=>MS.aeV h) _ _ (zl y ⟨p,B⟩) rfl (List.all_eq_true.1 (by rfl)) rfl qu ⟨⟨p,B⟩,rfl,b5⟩ (by have:=VK.Y;omega) VK ?_;intro v5 w5 lH ux ei;obtain⟨B5,d5,Af⟩:=aI.shape lH;generalize(x.N++[y]).length=l5 at Af;subst Af;have Nd:w5.heap[C]?=W.heap[C]?:=(ux.block C (by simp;omega) (Dg C aa)).trans ((ak (aj W) _).drew.block C Ak);have pJ:af w5 x0 101 (nW A n k x s):=(ux.block x0 E8.blk.lt fun e=>E8.bO.2.2.1 x0 e.symm rfl).trans E8.blk;obtain⟨zO,cd,FD⟩:=af.aM pJ;unfold nW at zO;obtain⟨rK,Kh,je⟩:=aZ lH ux ei;clear lH ux ei pJ;refine l.Y _ _ (by first|exact Nd) (fun c=>?_);clear l K;(try simp only[aC]);refine aP 8 c ?_;refine aP 9 c ?_;(try simp only[aC]);refine et 10 (fun K l=>?_);go_simp;refine l.Y _ _ ((dp w5 ⟨x0,14,none⟩ _ C aq).trans Nd) (fun c=>?_);clear l K;(try simp only[aC]);refine wpAnyH_done (by kernel_rfl) ?_ _;clear c;go_wp2;go_end0;obtain⟨hM,hF⟩:=MS.adm E8 rK Kh je;refine⟨rfl,_,?_,gw.trans (gw.ext (ak (ai G N) _).drew (s.U x0)) hF⟩;rw[<-bg.Y];exact hM
end
variable[OW]
theorem ldT{S:World->Prop}{e:Region.Mode}(i:Nat){d:Tmp}{x:Operand}{g j l m}{fuel:Nat}{listed:Array Bool}(r:S w)(b o:Nat)(T:List Value)(s:T.length=34)(B:∀f,S f->f.rangeAt b o T)(h:wpAnyH prog e ops Q S fuel (listed.setIfInBounds i true) (a.put (some d) (.agg T.toArray)) w)(v:ops[i]?=some ⟨some d,.load 50 x,g,j,l,m⟩:=by rfl)(D:a.eval x=.pointer (some ⟨b,o,none⟩):=by rfl)(u:(Region.noSelect ops && (Region.free e ops listed i && (Region.ready e ops listed).contains i))=true:=by kernel_rfl)(C:Region.wanted ⟨some d,.load 50 x,g,j,l,m⟩ (yielded ops a.tmps)=true:=by rfl)(q:∀c a w,Q (.panic c) (a.put (some d) (.agg T.toArray)) w->Q (.panic c) a w:=by exact fun _ _ _ h=>h):wpAnyH prog e ops Q S (fuel+1) listed a w:=tkH v u C q r (fun f k=>r4 50 _ rfl b o D T _ (B f k) underlying50 rfl (by rw[s];rfl)) h
theorem R5{K:Act->World->Prop}{x y:Operand}(b i:Nat)(T:List Value)(d:T.length=34)(e:T.toArray.all (·.oneCell')=true)(j:w.there b i 34)(h:K (a.put o.dst undef) (aw w b i T))(f:o.guard=none:=by rfl)(g:o.op=.store 50 x y:=by rfl)(l:a.eval x=.pointer (some ⟨b,i,none⟩):=by rfl)(m:a.eval y=.agg T.toArray:=by rfl):if Region.wanted o (yielded ops a.tmps)=true then Oper.wp prog o a w K Q else E:=by
 have c:Region.wanted o (yielded ops a.tmps)=true:=by simp[Region.wanted,f]
 rw[au c]
 refine wp_store_mid 50 x y g b i T.toArray l m (by rw[jG,d];exact j) (by rw[jG,d];rfl) e ?_
 rw[jm]
 exact h
theorem nU.begun{x:Tk}{s:Sh}(h:nU w S x s){e d b:Int}{q:Rq}{z:Sl}(hq:dG w S bC z.A q.cases):nU w S {eY e d q x.aA dD false with round:=b} (Tc z s):=⟨hq,dx.nil _ _ _ _,dx.nil _ _ _ _,dx.nil _ _ _ _,ru.nil _ _ _,dx.nil _ _ _ _,h.fr,h.ol,aV _,aV _,aV _,aV _,h.lr,h.lo⟩
def adn(e:World)(c:bA)(K:Tk)(z:Sh)(Q:Rq)(h i:Value)(d:World):Prop:=∃g f a,h=.pointer (some ⟨g,0,none⟩)/\i=.int .i64 (dE c K Q).2/\e.heap.size<=g/\af d g 50 a.toArray/\a=iK (dE c K Q).1 (if(dE c K Q).2=0 then Tc f z else z)/\dG d (fun b=>e.heap.size<=b/\b<d.heap.size) bC f.A Q.cases/\Ext e d
section
variable{w:World} {x0:Nat} {A:Option Addr} {n k q:Nat} {x:Mo.Mc} {s:Sx}
theorem E9(H:MS w x0 A n k q x s)(t:Nat)(ht:t<x.T.length)(J9:x.S.length=x.T.length)(Q:Rq)(zq:Sl)(hq:dI w bC zq.A Q.cases)(hl:Q.cases.length<=1000000)(h0:0<=(bm x t).seq)(B:(bm x t).seq<=1048575)(hN:x.N.length<=1000000) :
 Calls prog 78 #[.pointer (some ⟨x0,0,none⟩),.int .i64 t,.agg (mW Q zq).toArray] w fun e w'=>e=.returned (.int .i64 (cS x t Q).2)/\zQ x0 A n k q (cS x t Q).1 w s w':=by
 obtain⟨Y,dT,z,P,cF,cO,hz,hc,cz⟩:=H.task ht
 obtain⟨K,d⟩:=aG (bm x t)
 have a6:=ae d
 rw[<-d]at hz hc h0 B
 obtain⟨l,oX⟩:=aG (w.alloc (jx Q zq.A Q.cases.length zq.c))
 have X:Hid (Below w w l):=by rw[oX];exact ak (aj w) _
 have iT:Hid (af l w 42 (mW Q zq).toArray):=by rw[oX];exact af.new _ _ _
 have De:Hid (w.heap.size<l.heap.size):=by unfold Hid;rw[oX];simp
 obtain⟨HX,qW⟩:=av (fun(g:World) (m:Below w w g)=>H.more m) (fun g (F:Ext l g)=>jZ g Q zq hl (hq.below (ai X F.Y)))
 obtain⟨T0,yS⟩:=aG (iK K z)
 have We:Hid (T0.length=34):=by rw[yS];rfl
 have U:=ae (fun g (z':Sl) (F:Ext l g) (h:dI g bC z'.A Q.cases)=>(M8 (w:=g) (c:=x.c) (A:=A) (n:=n) (k:=k) K z Q z' h hl h0 B).mono (fun e w' h=>(⟨(iK (dE x.c K Q).1 (if(dE x.c K Q).2=0 then Tc z' z else z)),h.1,rfl,h.2⟩:∃f:List Value,e=.returned (.tuple #[.agg f.toArray,.int .i64 (dE x.c K Q).2])/\f=iK (dE x.c K Q).1 (if(dE x.c K Q).2=0 then Tc z' z else z)/\Below g g w')))
 have Tf:Hid (∀g:World,Ext l g->g.rangeAt Y (t*34) T0):=fun g F j v P=>(Below.cell (ai X F.Y) (by rw[yS]at P;exact bb (hc j v P))).trans (hc j v (by rw[<-yS];exact P))
 rw[<-yS]at U
 unfold mW zF at U
 unfold mW at qW
 (try dsimp only at U qW)
 obtain⟨er,R6⟩:=aG ((dE x.c K Q).2)
 obtain⟨M,pI,HH,HZ,HV,HT⟩:=cT R6 oX H hz P ht
 obtain⟨b7,VK,b6⟩:=aZ J9 hN hl
 obtain⟨j,hj⟩:=aG x.T.length
 have aq:=iT.Y
 unfold mW at aq
 have W:=fun g (F:Ext l g) i=>af.cell (HX g (ai X F.Y)).blk i
 unfold nW at W
 rw[P, <-hj]at W
 rw[<-hj]at ht
 have kM:=fun g (F:Ext l g) i=>af.cell (aq.ai F.Y) i
 unfold mW
 rw[<-R6]at U
 clear d oX hc hz P H hq hl h0 B hN J9 yS R6 hj cO aq
 go_enter func78,ntmps78
 go_wp2_with fail
 rw[<-pI.Y]
 clear pI
 go_cut[7,8] (fun s7 s8 g=>adn l x.c K z Q s7 s8 g)
 case first =>
  refine wp_region_held_drew (S:=(Ext l)) (by kernel_rfl) (Ext.start _) (fun a=>?_);refine aP 0 a ?_;refine aP 1 a ?_;refine aP 2 a ?_;refine aP 3 a ?_;refine aP 4 a ?_;refine aP 5 a ?_;refine aP 6 a ?_;refine aP 7 a ?_;refine aP 8 a ?_;refine aP 9 a ?_;(try simp only[aC]);refine ldT 10 a Y (t*34) T0 We Tf ?_;refine aP 11 a ?_;(try simp only[aC]);refine wpAnyH_ready (rs:=[12,17]) (by kernel_rfl) aD ?_;refine(AllReadyH.cons (o:=⟨some 22,_,_,_,_,_⟩) rfl (fun K d=>?_) (AllReadyH.cons (o:=⟨some 7,_,_,_,_,_⟩) rfl (fun K d=>?_) AllReadyH.nil))
  ·go_simp;((with_reducible go_fit (qW.Y _ bc));rintro e I ⟨⟨C,L⟩,rfl,N,bY⟩;have mX:Ext l I:=Ext.to bc bY);go_wp2_with fail;refine d.Y _ _ Bp (fun a=>?_);clear d K;(try simp only[aC]);refine wpAnyH_ready (rs:=[13,17]) (by kernel_rfl) aD ?_;refine(AllReadyH.cons (o:=⟨some 23,_,_,_,_,_⟩) rfl (fun K d=>?_) (AllReadyH.cons (o:=⟨some 7,_,_,_,_,_⟩) rfl (fun K d=>?_) AllReadyH.nil))
   ·go_simp;((with_reducible go_fit (U.Y _ ⟨C,L⟩ bc ?hq));(case hq=>first|exact N.1.1|exact N.1.1.below (ak (aj _) _));rintro e p ⟨f,rfl,G,u⟩;have r:=ae G;clear G;have nD:Ext l p:=Ext.to bc u);go_wp2_with fail;refine d.Y _ _ Bp (fun a=>?_);clear d K;(try simp only[aC]);refine aP 14 a ?_;refine aP 15 a ?_;refine aP 16 a ?_;(try simp only[aC]);refine et 17 (fun K d=>?_);go_simp;refine d.Y _ _ Bp (fun a=>?_);clear d K;(try simp only[aC]);have R:af (p.alloc (.cells zT.toArray 50)) p 50 zT.toArray:=af.new _ _ _;refine et 18 (fun K d=>?_);refine R5 p 0 f (by rw[r.Y];rfl) (by rw[r.Y];exact eK _ _) (af.there R 0 34 ag) ?_;have E:Ext l (aw (p.alloc (.cells zT.toArray 50)) p 0 f):=ax nD.Y.size _ _ _ (Ext.alloc nD _);have J:=aQ (vs:=f) (cs:=zT) R (by rw[r.Y];rfl);have T:dG (aw (p.alloc (.cells zT.toArray 50)) p 0 f) (fun b=>l.heap.size<=b/\b<(aw (p.alloc (.cells zT.toArray 50)) p 0 f).heap.size) bC C Q.cases:=(N.1.same fun b m=>(aO (by have:=m.2;have:=u.size;omega) _ 0).trans (((ak (aj p) _).block b (by have:=m.2;have:=u.size;omega)).trans (u.block b m.2))).mono fun b m=>⟨m.1,by rw[bH];have:=m.2;have:=u.size;simp;omega⟩
    refine d.Y _ _ E (fun a=>?_);clear d K;(try simp only[aC]);refine aP 19 a ?_;(try simp only[aC]);refine wpAnyH_done (by kernel_rfl) ?_ _;clear a;skip;go_wp2;go_meet;exact⟨p,⟨C,L⟩,f,rfl,by rw[M.Y],nD.Y.size,J,by rw[<-M.Y];exact r.Y,T,E⟩
   ·go_simp;refine d.Y _ _ Bp (fun a=>?_);clear d K;(try simp only[aC]);refine et 13 (fun K d=>?_);go_simp;((with_reducible go_fit (U.Y _ ⟨C,L⟩ bc ?hq));(case hq=>first|exact N.1.1|exact N.1.1.below (ak (aj _) _));rintro e p ⟨f,rfl,G,u⟩;have r:=ae G;clear G;have nD:Ext l p:=Ext.to bc u);go_wp2_with fail;refine d.Y _ _ Bp (fun a=>?_);clear d K;(try simp only[aC]);refine aP 14 a ?_;refine aP 15 a ?_;refine aP 16 a ?_;(try simp only[aC]);have R:af p I 50 zT.toArray:=(af.new I _ _).ai u;refine et 18 (fun K d=>?_);refine R5 I 0 f (by rw[r.Y];rfl) (by rw[r.Y];exact eK _ _) (af.there R 0 34 ag) ?_;have E:Ext l (aw p I 0 f):=ax mX.Y.size _ _ _ nD;have J:=aQ (vs:=f) (cs:=zT) R (by rw[r.Y];rfl);have T:dG (aw p I 0 f) (fun b=>l.heap.size<=b/\b<(aw p I 0 f).heap.size) bC C Q.cases:=(N.1.same fun b m=>(aO (by have:=m.2;omega) _ 0).trans ((u.block b (by have:=m.2;simp;omega)).trans ((ak (aj I) _).block b m.2))).mono fun b m=>⟨m.1,by rw[bH];have:=m.2;have:=u.size;simp at this;omega⟩
    refine d.Y _ _ E (fun a=>?_);clear d K;(try simp only[aC]);refine aP 19 a ?_;(try simp only[aC]);refine wpAnyH_done (by kernel_rfl) ?_ _;clear a;generalize aw p I 0 f=w5 at *;go_wp2;go_meet;exact⟨I,⟨C,L⟩,f,rfl,by rw[M.Y],mX.Y.size,J,by rw[<-M.Y];exact r.Y,T,E⟩
  ·go_simp;refine d.Y _ _ Bp (fun a=>?_);clear d K;(try simp only[aC]);refine et 12 (fun K d=>?_);go_simp;((with_reducible go_fit (qW.Y _ bc));rintro e I ⟨⟨C,L⟩,rfl,N,bY⟩;have mX:Ext l I:=Ext.to bc bY);go_wp2_with fail;refine d.Y _ _ Bp (fun a=>?_);clear d K;(try simp only[aC]);refine et 13 (fun K d=>?_);go_simp;((with_reducible go_fit (U.Y _ ⟨C,L⟩ bc ?hq));(case hq=>first|exact N.1.1|exact N.1.1.below (ak (aj _) _));rintro e p ⟨f,rfl,G,u⟩;have r:=ae G;clear G;have nD:Ext l p:=Ext.to bc u);go_wp2_with fail;refine d.Y _ _ Bp (fun a=>?_);clear d K;(try simp only[aC]);refine aP 14 a ?_;refine aP 15 a ?_;refine aP 16 a ?_;(try simp only[aC]);have R:af p l 50 zT.toArray:=((af.kv (af.new l _ _)).ai bY).ai u;refine et 18 (fun K d=>?_);refine R5 l 0 f (by rw[r.Y];rfl) (by rw[r.Y];exact eK _ _) (af.there R 0 34 ag) ?_;have E:Ext l (aw p l 0 f):=ax (aS _) _ _ _ nD;have J:=aQ (vs:=f) (cs:=zT) R (by rw[r.Y];rfl);have T:dG (aw p l 0 f) (fun b=>l.heap.size<=b/\b<(aw p l 0 f).heap.size) bC C Q.cases:=(N.1.same fun b m=>(aO (by have:=m.1;simp at this;omega) _ 0).trans (u.block b m.2)).mono fun b m=>⟨by have:=m.1;simp at this;omega,by rw[bH];have:=m.2;have:=u.size;omega⟩
   refine d.Y _ _ E (fun a=>?_);clear d K;(try simp only[aC]);refine aP 19 a ?_;(try simp only[aC]);refine wpAnyH_done (by kernel_rfl) ?_ _;clear a;generalize aw p l 0 f=w5 at *;go_wp2;go_meet;exact⟨l,⟨C,L⟩,f,rfl,by rw[M.Y],(aS _),J,by rw[<-M.Y];exact r.Y,T,E⟩
 case rest =>
  obtain⟨O,⟨C,L⟩,f,rfl,bz,bo,(S3:Hid _),G,T,E⟩:=hcut;rw[<-M.Y]at bz G;subst bz;clear W kM qW U Tf We;obtain⟨En,r,Ah,b5,V⟩:=dh E G T bo (HX wc (ai X E.Y));clear E G T bo;by_cases he:er=0;rotate_left
  ·have HE:=ae he;have d1:(er !=0)=true:=by simpa using he
   clear he;go_wp2;go_ret;have hM:cS x t Q=(x,er):=by unfold cS;dsimp only;rw[<-a6.Y, <-M.Y,au HE.Y]
   rw[hM];exact⟨rfl,s,V,gw.ext (ai X En.Y) _⟩
  have HE:=ae he;have d1:(er !=0)=false:=by rw[he];rfl
  obtain⟨y,hy⟩:=aG ((dE x.c K Q).1);have HY:Hid (y={eY 1 (K.seq+1) Q K.aA dD false with round:=1}):=by
   have h:=M.symm.trans HE;unfold Hid;rw[hy];unfold dE at h ⊢;split
   ·rename_i B;rw[au B]at h;cases h
   ·rename_i B;rw[ah B]at h;split
    ·rename_i h2;rw[au h2]at h;cases h
    ·rename_i h2;rw[ah h2]at h;split
     ·rename_i h3;rw[au h3]at h;cases h
     ·rfl
  have uh:Hid (f=iK y (Tc ⟨C,L⟩ z)):=by unfold Hid;rw[r.Y,au HE.Y,hy]
  have b8:=ae hy;have hU:∀b,s.U x0 b->b<w.heap.size:=fun b m=>HH.ul m;have cd:=cF;have c3:x0<w.heap.size:=HH.blk.lt;have cn:w.heap.size<O:=bL De b5;have Yu:x0≠Y:=fun e=>HH.bO.1 Y (by rw[HV.Y];rfl) e.symm;have a7:Hid (MS wc.drew x0 A n k q x s):=V.more (aj wc).drew;have bg:Hid (wc.drew.there Y (t*34) 34):=by
   obtain⟨g',d',z',c2,_,_,_,cv,cw⟩:=a7.task HT;have B:=c2.symm.trans HV;injection B with B
   injection B with B
   injection B with B
   subst B;exact fun j hj=>⟨by rw[cv j _ (cY (show j<(iK (bm x t) z').length from hj))];rfl,cw _⟩
  have Qe:Hid (nU wc.drew (s.I wc.drew x0) y (Tc ⟨C,L⟩ z)):=by
   unfold Hid;rw[HY.Y];have m:=(ai X En.Y).drew;refine nU.begun ((HZ.move (fun b D=>m.block b D.1) fun b D=>⟨bL D.1 m.size,D.2⟩):nU wc.drew (s.I wc.drew x0) K z) ((show dG wc.drew (fun b=>l.heap.size<=b/\b<wc.heap.size) bC C Q.cases from Ah.Y).mono fun b D=>⟨D.2,fun e=>?_,fun e=>?_,fun e=>by have:=(HH.ol b e).1;have:=De.Y;omega⟩)
   ·have:=hU b (.inr e);have:=De.Y;omega
   ·have:=hU b (.inl e);have:=De.Y;omega
  have NK:=HT.Y;clear he hy hU cd cz;go_upto_region 4 with fail
  have W:=fun(g:World) (F:g.heap[x0]?=wc.heap[x0]?/\g.heap[O]?=wc.heap[O]?) i=>af.cell (af.rM V.blk F.1) i;unfold nW at W;rw[HV.Y]at W;have XR:∀g:World,(g.heap[x0]?=wc.heap[x0]?/\g.heap[O]?=wc.heap[O]?)->g.rangeAt O 0 f:=fun g F=>af.range (af.rM S3 F.2) f fun j v P=>by rw[List.getElem?_toArray];exact P
  refine wp_region_held_drew (S:=fun g:World=>g.heap[x0]?=wc.heap[x0]?/\g.heap[O]?=wc.heap[O]?) (by kernel_rfl) ⟨rfl,rfl⟩ (fun a=>?_);refine aP 0 a ?_;refine aP 1 a ?_;refine aP 2 a ?_;refine aP 3 a ?_;refine aP 4 a ?_;(try simp only[aC]);refine ldT 5 a O 0 f (by rw[uh.Y];rfl) XR ?_;refine aP 6 a ?_;(try simp only[aC]);refine et 7 (fun K d=>?_);refine R5 Y (t*34) f (by rw[uh.Y];rfl) (by rw[uh.Y];exact eK _ _) bg ?_;refine d.Y _ _ ⟨aO Yu _ _,aO aa _ _⟩ (fun a=>?_);clear d K;(try simp only[aC]);refine wpAnyH_done (by kernel_rfl) ?_ _;clear a W XR;obtain⟨Z,FH⟩:=MS.rG a7 HV HT y (Tc ⟨C,L⟩ z) Qe;rw[<-uh.Y]at Z FH;obtain⟨E4,NM⟩:=av Z FH;clear Z FH bg Qe Yu c3 cn;generalize aw wc.drew Y (t*34) f=w6 at *;have CJ:t<x.S.length:=by rw[b7.Y];exact NK
  obtain⟨gS,dS,Th,_,cC⟩:=aJ.form E4.S (by intro e;dsimp only at e;rw[e]at CJ;exact absurd CJ (Nat.not_lt_zero _));dsimp only at Th;have Kj:=E4.S;rw[Th]at Kj;have Yv:=aJ.cell Kj (cY CJ);have cy:=fun i=>aJ.frozen Kj i;obtain⟨wE,-,c0⟩:=af.aM E4.blk;unfold nW at wE;dsimp only at wE;rw[Th]at wE;have NW:=ae Th;clear Kj Th;obtain⟨ln,xu⟩:=aG x.S.length;rw[<-xu]at wE CJ;generalize x.S[t]=sv at Yv;clear xu;go_upto_region 6 with fail
  clear wE Yv cy c0 cC CJ;obtain⟨(CM:Hid _),Wf⟩:=MS.adk E4 NW t 0;have xH:=ae Wf;clear Wf;generalize w6.setCell ⟨gS,t,none⟩ (.int .i64 0)=w7 at *;have Ds:bm {x with T:=x.T.set t y,S:=x.S.set t 0} t=y:=by unfold bm;rw[cZ,List.getElem?_set_self NK];rfl
  have hn:=Kg CM 1 t (by rw[cq];exact NK) dD (by rw[Ds,HY.Y];exact b6.Y) VK;rw[Ds]at hn;have a8:Hid (Calls prog 75 #[.pointer (some ⟨x0,0,none⟩),.int .i64 1,.int .i64 t,.agg #[.int .i64 0,.int .i64 0,.int .i64 0,.int .i64 0]] w7 _):=hn;clear hn Ds NK;go_wp2_with fail;refine a8.mono ?_;rintro e w8 ⟨rfl,(bR:Hid _)⟩;clear a8;go_wp2;go_ret;have hM:cS x t Q=({x with T:=x.T.set t y,S:=x.S.set t 0,N:=x.N++[⟨1,t,y.seq,x.time,y.aN,dD⟩]},0):=by unfold cS;dsimp only;rw[<-a6.Y, <-M.Y,ah (by rw[HE.Y];decide), <-b8.Y]
  rw[hM,HE.Y];obtain⟨s',GO,ct⟩:=bR.Y;exact⟨rfl,s',GO,gw.trans (gw.trans (gw.trans (gw.ext (ai X En.Y).drew _) NM) xH) ct⟩
end
variable[OW]
section
variable{w:World} {x0:Nat} {A:Option Addr} {n k q:Nat} {x:Mo.Mc} {s:Sx}
theorem Mo.R8(h:t<x.P.length):x.P[t]?=some (Mo.gH x t):=by unfold Mo.gH;rw[cZ,cY h];rfl
theorem MS.IM(H:MS w x0 A n k q x s)(c:t<x.P.length):∃g d,∃z:Sl,s.P=.slice (some ⟨g,0,none⟩) x.P.length d/\g<w.heap.size/\s.X x0 g/\dx w (s.I w x0) .i64 z.A (gH x t).outs/\(gH x t).outs.length<=z.c/\(∀i v,(ma (gH x t) z)[i]?=some v->w.cell? ⟨g,t*7+i,none⟩=some v)/\∀i,w.frozen? ⟨g,i,none⟩=false:=by obtain⟨g,d,b,_,l⟩:=aI.form H.P (by rintro e;rw[e]at c;exact absurd c (Nat.not_lt_zero _));have a:=H.P;rw[b]at a;obtain⟨r,h,o,j⟩:=aI.at_ a (R8 c);obtain⟨z,rfl,m,f⟩:=h;exact⟨g,d,z,b,l,.inr (.inr (.inl (by rw[b];rfl))),m,f,j,fun i=>aI.cR a i⟩
theorem zQ.at_{e:Mc}(h:zQ x0 A n k q e w s w'):∃a,MS w' x0 A n k q e a/\gw w w' (s.U x0) (a.U x0):=h
theorem zQ.more(H:MS w x0 A n k q x s)(e:Below w w w'):zQ x0 A n k q x w s w':=⟨s,H.more e,gw.ext e _⟩
theorem IP{p:Pm}{Q:Rq}(h:fe p=some Q):Q.cases.length<=1000000:=by
 unfold fe at h;repeat' split at h
 all_goals first
  |(cases h;done)
  |(injection h with h;subst h;first|exact aV _|(show(1:Nat)<=1000000;decide))
theorem Wh(H:MS w x0 A n k q x s)(t:Nat)(ht:t<x.T.length)(NX:x.P.length=x.T.length)(J9:x.S.length=x.T.length)(Yw:(gH x t).outs.length<=8)(h0:0<=(bm x t).seq)(h1:(bm x t).seq<=1048575)(hN:x.N.length<=1000000) :
 Calls prog 73 #[.pointer x0,t] w fun e w'=>e=.returned (.tuple #[])/\zQ x0 A n k q (eL x t) w s w':=by
 have Wi:t<x.P.length:=by rw[NX];exact ht
 obtain⟨gT,dT,z,hv,b6,_,_,hc,_⟩:=H.task ht
 obtain⟨gP,dP,zp,R,bY,_,U,f,c,bo⟩:=H.IM Wi
 obtain⟨p,hp⟩:=aG (gH x t)
 obtain⟨pc,bQ⟩:=aG ((bm x t).pc)
 obtain⟨D,uy⟩:=av hp bQ
 rw[<-hp]at U f c Yw
 have rX:=ae (sD w p zp U.1 Yw f)
 obtain⟨o,ho⟩:=aG (fe p)
 rw[<-ho]at rX
 have C:=ae ho
 unfold PmE ma mW at rX
 have L:=c 0 _ rfl
 rw[Nat.add_zero]at L
 have Z:=c 1 _ rfl
 have c2:=c 2 _ rfl
 have c3:=c 3 _ rfl
 have c4:=c 4 _ rfl
 have c5:=c 5 _ rfl
 have c6:=c 6 _ rfl
 obtain⟨G,HX,R9,HV,bg,HT⟩:=cT (fun(y:World) (m:Below w w y)=>(show y.cell? ⟨gT,t*34,none⟩=some (.int .i64 pc)from(Below.cell m (bb (hc 0 _ rfl))).trans (by rw[bQ];exact hc 0 _ rfl))) (fun(y:World) (m:Below w w y)=>H.more m) (fun(y:World) (m:Below w w y) (Q:Rq) (B:Sl) (hq:dI y bC B.A Q.cases) (hl:Q.cases.length<=1000000)=>E9 (H.more m) t ht J9 Q B hq hl h0 h1 hN) hv R ht
 obtain⟨I,a8⟩:=av Wi Yw
 obtain⟨g,-,Y⟩:=af.aM H.blk
 unfold nW at g
 rw[hv,R]at g
 obtain⟨lt,P⟩:∃l,l=x.T.length:=⟨_,rfl⟩
 obtain⟨lp,O⟩:∃l,l=x.P.length:=⟨_,rfl⟩
 rw[<-P, <-O]at g
 rw[<-P]at ht
 rw[<-O]at Wi
 clear hp bQ hc c hv R U f Yw ho H hN h0 h1 J9 NX bo P O
 go_enter func73,ntmps73
 go_wp2_with fail
 refine rX.mono ?_
 rintro e w2 ⟨B,rfl,a6,(bE:Hid _)⟩
 have iC:=ae a6
 clear a6 rX L Z c2 c3 c4 c5 c6 g Y
 rcases o with _|Q
 ·clear G R9;go_wp2;refine bodyPost_ret (v:=.tuple #[]) (by simp[results,results73,go_sem]) rfl ?_;have N:eL x t=x:=by unfold eL;rw[<-D.Y, <-C.Y]
  rw[N];exact⟨rfl,zQ.more (HX w (aj w)) (ak bE _)⟩
 ·have M:=ae (ak bE (jx Q B.A Q.cases.length B.c));have Wj:=ae (HX _ M);obtain⟨g,-,Y⟩:=af.aM Wj.blk;unfold nW at g;rw[HV.Y,bg.Y]at g;have ui:=G.Y _ M;dsimp only[Option.getD_some]at iC;obtain⟨w3,r⟩:=aG (w2.alloc (jx Q B.A Q.cases.length B.c));have J2:=ae r;have ub:Hid (af w3 w2 42 (mW Q B).toArray):=by rw[r];exact af.new _ _ _
  have qW:Hid (dI w3 bC B.A Q.cases):=by rw[r];exact iC.1.1.below (ak (aj w2) _)
  rw[<-r]at M Wj g Y ui;obtain⟨kM,-,bR⟩:=af.aM ub;unfold mW at kM;have NK:=HT.Y;clear r;go_upto_region 1 with fail
  rw[<-J2.Y];by_cases V:pc=0;rotate_left
  ·have d1:(pc !=0)=true:=by simpa using V
   have Yx:=ae V;clear V;go_wp2;refine bodyPost_ret (v:=.tuple #[]) (by simp[results,results73,go_sem]) rfl ?_;have N:eL x t=x:=by unfold eL;rw[<-D.Y, <-C.Y];dsimp only;rw[<-uy.Y,au Yx.Y]
   rw[N];exact⟨rfl,zQ.more (HX w (aj w)) M⟩
  have d1:(pc !=0)=false:=by rw[V];rfl
  obtain⟨Yx,xk⟩:=av V (R9 w3 M Q B qW (IP C.symm));have Yy:Hid (eL x t=if(cS x t Q).2≠0 then{x with P:=x.P.set t (gG p (bI 7))}else(cS x t Q).1):=by unfold Hid eL;rw[<-D.Y, <-C.Y];dsimp only;rw[<-uy.Y,ah (fun e=>e V)]
  obtain⟨er,R6⟩:=aG ((cS x t Q).2);have Ki:=ae R6;rw[<-R6]at xk Yy;unfold mW at xk;clear R6 V;go_wp2_with fail;refine xk.mono ?_;rintro e W ⟨rfl,(F:Hid _)⟩;clear g Y kM bR ui xk R9 G qW iC ub J2 d1;by_cases X:er=0
  ·have d1:(er !=0)=false:=by rw[X];rfl
   have HE:=ae X;clear X;go_wp2;go_end0;rw[Yy.Y,ah (fun e=>e HE.Y)];obtain⟨s',h1,h2⟩:=F.Y;exact⟨rfl,s',h1,gw.trans (gw.ext M _) h2⟩
  have d1:(er !=0)=true:=by simpa using X
  have HE:=ae X;clear X;obtain⟨s5,j,Ka⟩:=F.Y;have a7:(cS x t Q).1=x:=by have h:=HE.Y;rw[Ki.Y]at h;exact Yz
  rw[a7]at j;have pW:=ae (gw.trans (gw.ext M _) Ka);clear Ka F a7;obtain⟨gQ,dQ,zr,T,b5,_,YA,f,d,bz⟩:=j.IM I;rw[<-D.Y]at YA f d;have YB:=ae (Bw W.drew p zr (bI 7) (YA.1.below (aj W).drew) a8 f);obtain⟨p',oJ⟩:=aG (gG p (bI 7));rw[<-oJ]at YB Yy;unfold ma bI at YB;(try dsimp only at YB);have L:=d 0 _ rfl;rw[Nat.add_zero]at L;have Z:=d 1 _ rfl;have c2:=d 2 _ rfl;have c3:=d 3 _ rfl;have c4:=d 4 _ rfl;have c5:=d 5 _ rfl;have c6:=d 6 _ rfl;obtain⟨pG,J⟩:=av j T;have YC:x0≠gQ:=fun e=>j.bO.2.1 gQ (by rw[T];rfl) e.symm;have Y:=j.blk.lt;have b7:=I.Y;clear j T oJ d YA f bz;go_upto_region 3 with fail
  have g:=fun(y:World) (hx:y.heap[x0]?=W.heap[x0]?) i=>af.cell (af.rM pG.blk hx) i;unfold nW at g;rw[J.Y]at g;refine wp_region_held_drew (S:=fun y:World=>y.heap[x0]?=W.heap[x0]?) (by kernel_rfl) rfl (fun a=>?_);refine aP 0 a ?_;refine aP 1 a ?_;refine aP 2 a ?_;refine aP 3 a ?_;refine aP 4 a ?_;refine aP 5 a ?_;refine aP 6 a ?_;refine aP 7 a ?_;refine aP 8 a ?_;refine aP 9 a ?_;refine aP 10 a ?_;refine aP 12 a ?_;(try simp only[aC]);refine et 11 (fun K E=>?_);go_simp;refine E.Y _ _ bc (fun a=>?_);clear E K;(try simp only[aC]);refine et 13 (fun K E=>?_);go_simp;refine YB.mono ?_;rintro e w6 ⟨zg,rfl,(Bu:Hid _),u⟩;have E4:=ae (pG.more (ai (aj W).drew u));have e0:=(Below.cell u (bb L)).trans L;have e1:=(Below.cell u (bb Z)).trans Z;have e2:=(Below.cell u (bb c2)).trans c2;have e3:=(Below.cell u (bb c3)).trans c3;have e4:=(Below.cell u (bb c4)).trans c4;have e5:=(Below.cell u (bb c5)).trans c5;have e6:=(Below.cell u (bb c6)).trans c6;have MH:=E4.P;rw[J.Y]at MH;have FK:=fun i=>aI.cR MH i;have aq:w6.heap[x0]?=W.heap[x0]?:=u.block x0 Y;have xe:=ae u;clear L Z c2 c3 c4 c5 c6 u MH;go_wp2_with fail;refine E.Y _ _ aq (fun a=>?_);clear E K;(try simp only[aC]);refine aP 14 a ?_;(try simp only[aC]);refine et 15 (fun K E=>?_);go_simp;refine E.Y _ _ ((aO YC (ma p' zg) (t*7)).trans aq) (fun a=>?_);clear E K;(try simp only[aC]);refine wpAnyH_done (by kernel_rfl) ?_ _;clear a;have hU:=fun b m=>pG.ul (b:=b) m;obtain⟨N,hF⟩:=MS.aaU E4 J I p' zg ⟨Bu.1.mono fun b m=>⟨m.2,fun e=>Nat.lt_irrefl _ (bL (hU b (.inr e)) m.1),fun e=>Nat.lt_irrefl _ (bL (hU b (.inl e)) m.1),fun e=>Nat.lt_irrefl _ (bL (pG.ol b e).1 m.1)⟩,Bu.2⟩;unfold ma at N hF;obtain⟨CM,xH⟩:=av N hF;clear N hF e0 e1 e2 e3 e4 e5 e6 FK g hU;go_wp2;go_end0;rw[Yy.Y,au HE.Y];exact⟨rfl,_,CM,gw.trans (gw.trans pW (gw.ext (ai (aj W).drew xe) _)) xH⟩
end
variable[OW]
section
variable{w:World} {x0:Nat} {A:Option Addr} {n k q:Nat} {x:Mo.Mc} {s:Sx}
theorem MS.aeZ(H:MS w x0 A n k q x s){d:List Nt}(j:Below 0 w w1)(r:∀b,b<w.heap.size->b≠x0->s.N.ownBlock≠some b->w1.heap[b]?=w.heap[b]?)(m:af w1 x0 101 (nW A n k {x with N:=d} {s with N:=v'}))(l:aI 93 13 Te w1 0 (Sx.I {s with N:=v'} w1 x0) v' d)(hf:∀b,v'.ownBlock=some b->s.N.ownBlock=some b\/w.heap.size<=b):MS w1 x0 A n k q {x with N:=d} {s with N:=v'}/\gw w w1 (s.U x0) (Sx.U {s with N:=v'} x0):=by
 have g:∀b,Sx.X {s with N:=v'} x0 b->s.X x0 b\/w.heap.size<=b:=by exact adl
 have V:Mv w w1 x0 s {s with N:=v'} (fun b=>b=x0\/s.N.ownBlock=some b):=⟨j,fun b i f=>r b i (fun e=>f (.inl e)) fun e=>f (.inr e),fun b h=>h.elim (fun h=>.inl (.inl h)) fun h=>.inl (.inr (.inr (.inr (.inl h)))),fun b h=>h.elim (fun h=>(g b h).imp .inl id) fun h=>.inl (.inr h)⟩
 exact⟨{blk:=m,mem:=V.CO H.mem fun b c e=>H.mx b c (e.elim (fun e=>.inl e) fun e=>(.inr (.inr (.inr (.inl e))))),N:=l,T:=V.rows kz H.T fun b c e=>e.elim (H.bO.1 b c) fun e=>(aI.mg H.T b c).elim fun _ h=>h.elim fun _ h=>(aI.mg H.N b e).elim fun _ a=>a.elim fun _ a=>eB h a ag rfl,P:=V.rows lN H.P fun b c e=>e.elim (H.bO.2.1 b c) fun e=>(aI.mg H.P b c).elim fun _ h=>h.elim fun _ h=>(aI.mg H.N b e).elim fun _ a=>a.elim fun _ a=>eB h a ag rfl,V:=V.rows iL H.V fun b c e=>e.elim (H.bO.2.2.2.1 b c) fun e=>(aI.mg H.V b c).elim fun _ h=>h.elim fun _ h=>(aI.mg H.N b e).elim fun _ a=>a.elim fun _ a=>eB h a ag rfl,S:=V.ints H.S fun b c e=>e.elim (H.bO.2.2.2.2.1 b c) fun e=>(eh H.S b c).elim fun _ h=>h.elim fun _ h=>(aI.mg H.N b e).elim fun _ a=>a.elim fun _ a=>eB h a ag rfl,M:=V.ints H.M fun b c e=>e.elim (H.bO.2.2.2.2.2 b c) fun e=>(eh H.M b c).elim fun _ h=>h.elim fun _ h=>(aI.mg H.N b e).elim fun _ a=>a.elim fun _ a=>eB h a ag rfl,mx:=fun b c h=>(g b h).elim (H.mx b c) fun h=>by have:=H.mem.lt c;omega,sm:=H.sm,cf:=V.cfg H.cf,hn:=H.hn,ol:=V.ol H.ol},V.fr⟩
structure NS (w4:World) (x0 gn:Nat) (A:Option Addr) (n k:Nat) (x:Mo.Mc) (s:Sx) (SS:Nat->Prop) (zA:Option Addr) (cs:List Mo.Cs) (v:Value) (N':List Mo.Nt) (W:World):Prop where
 kx:af W x0 101 (nW A n k x {s with N:=v})
 ow:aI 93 13 Te W 0 SS v N'
 lt:∀b,SS b->b<W.heap.size/\v.ownBlock≠some b/\b≠x0/\b≠gn
 gx:v.ownBlock≠some gn/\v.ownBlock≠some x0/\gn≠x0
 jH:Below 0 w4 W
 eq:∀b,b<w4.heap.size->b≠x0->s.N.ownBlock≠some b->W.heap[b]?=w4.heap[b]?
 own:∀b,v.ownBlock=some b->s.N.ownBlock=some b\/w4.heap.size<=b
 g:w4.heap.size<=gn/\gn<W.heap.size
 q:dG W SS bC zA cs
section
variable{w4 W:World} {gn:Nat} {SS:Nat->Prop} {zA:Option Addr} {cs:List Mo.Cs} {v:Value} {N':List Mo.Nt}
theorem NS.more(h:NS w4 x0 gn A n k x s SS zA cs v N' W){f:World}(e:Below W W f):NS w4 x0 gn A n k x s SS zA cs v N' f:=⟨h.kx.ai e,h.ow.move fx (fun b a=>e.block b (h.lt b a).1) fun b a=>e.block b (aI.lt h.ow a).2,fun b a=>⟨bL (h.lt b a).1 e.size,(h.lt b a).2⟩,h.gx,h.jH.trans (e.mono (aV _)),fun b c d g=>(e.block b (bL c h.jH.size)).trans (h.eq b c d g),h.own,⟨h.g.1,bL h.g.2 e.size⟩,h.q.same fun b a=>e.block b (h.lt b a).1⟩
theorem NS.Sa(h:NS w4 x0 gn A n k x s SS zA cs v N' W)(i:Nat)(u:Value):NS w4 x0 gn A n k x s SS zA cs v N' (W.setCell ⟨gn,i,none⟩ u) :=
 have e:∀b,b≠gn->(W.setCell ⟨gn,i,none⟩ u).heap[b]?=W.heap[b]?:=fun b a=>dp _ _ _ _ a
 have d:(W.setCell ⟨gn,i,none⟩ u).heap.size=W.heap.size:=aD
 ⟨(e x0 fun e=>h.gx.2.2 e.symm).trans h.kx,h.ow.move fx (fun b a=>e b (h.lt b a).2.2.2) fun b a=>e b fun e=>h.gx.1 (e▸a),fun b a=>⟨by rw[d];exact(h.lt b a).1,(h.lt b a).2⟩,h.gx,h.jH.setCell (p:=⟨gn,i,none⟩) (aV _) u,fun b c f g=>(e b (Nat.ne_of_lt (bL c h.g.1))).trans (h.eq b c f g),h.own,⟨h.g.1,by rw[d];exact h.g.2⟩,h.q.same fun b a=>e b (h.lt b a).2.2.2⟩
theorem NS.app(h:NS w4 x0 gn A n k x s SS zA cs v N' W){c:World}{y:Nt}(B:aI 93 13 Te c 0 SS v' (N'++[y]))(z:W.grownBy c v.ownBlock)(u:v'.ownBlock=v.ownBlock\/v'.ownBlock=some W.heap.size):NS w4 x0 gn A n k x s SS zA cs v' (N'++[y]) (c.setCell ⟨x0,14,none⟩ v'):=by
 obtain⟨rows,_,t,_⟩:=h.ow;have j:Below 0 W c:=aH.bh t (Below.refl 0 W) z (aV _) (aS _);have e:∀b,b≠x0->(c.setCell ⟨x0,14,none⟩ v').heap[b]?=c.heap[b]?:=fun b a=>dp _ _ _ _ a;have r:(c.setCell ⟨x0,14,none⟩ v').heap.size=c.heap.size:=aD;have i:∀b,b<W.heap.size->v.ownBlock≠some b->c.heap[b]?=W.heap[b]?:=fun b a l=>z.block b a fun e=>l e.symm;have d:∀b,b<W.heap.size->v.ownBlock≠some b->v'.ownBlock≠some b:=fun b a l e=>u.elim (fun f=>l (f▸e)) fun f=>by rw[f]at e;injection e with e;omega
 have m:=h.kx.lt;exact⟨af.bj ((i x0 m h.gx.2.1).trans h.kx) 14 v',B.move fx (fun b a=>e b (h.lt b a).2.2.1) fun b a=>e b fun f=>d x0 m h.gx.2.1 (f▸a),fun b a=>⟨by rw[r];exact bL (h.lt b a).1 j.size,d b (h.lt b a).1 (h.lt b a).2.1,(h.lt b a).2.2⟩,⟨d gn h.g.2 h.gx.1,d x0 m h.gx.2.1,h.gx.2.2⟩,(h.jH.trans j).setCell (p:=⟨x0,14,none⟩) (aV _) v',fun b g o q=>(e b o).trans ((i b (bL g h.jH.size) fun f=>(h.own b f).elim q fun f=>Nat.lt_irrefl _ (bL g f)).trans (h.eq b g o q)),fun b a=>u.elim (fun f=>h.own b (f▸a)) fun f=>by rw[f]at a;injection a with a;exact .inr (a▸h.jH.size),⟨h.g.1,by rw[r];exact bL h.g.2 j.size⟩,h.q.same fun b a=>(e b (h.lt b a).2.2.1).trans (i b (h.lt b a).1 (h.lt b a).2.1)⟩
theorem NS.fin(h:NS w4 x0 gn A n k x s SS zA cs v N' W)(H:MS w4 x0 A n k q x s)(l:∀b,SS b->s.I w4 x0 b\/w4.heap.size<=b):MS W x0 A n k q {x with N:=N'} {s with N:=v}/\gw w4 W (s.U x0) (Sx.U {s with N:=v} x0):=by refine H.aeZ h.jH h.eq h.kx (h.ow.mono fx fun b c=>?_) h.own;have g:∀b,SS b->¬s.U x0 b:=fun b c e=>(l b c).elim (fun f=>e.elim f.2.2.1 f.2.1) fun f=>Nat.lt_irrefl _ (bL (H.ul e) f);have a:=g b c;have d:=(h.lt b c).2.1;refine⟨(h.lt b c).1,fun e=>a (.inr e),?_,fun e=>(l b c).elim (fun f=>f.2.2.2 e) fun f=>Nat.lt_irrefl _ (bL (H.ol b e).1 f)⟩;exact fun e=>e.elim (fun e=>a (.inl (.inl e))) fun e=>e.elim (fun e=>a (.inl (.inr (.inl e)))) fun e=>e.elim (fun e=>a (.inl (.inr (.inr (.inl e))))) fun e=>e.elim d fun e=>e.elim (fun e=>a (.inl (.inr (.inr (.inr (.inr (.inl e))))))) fun e=>e.elim (fun e=>a (.inl (.inr (.inr (.inr (.inr (.inr (.inl e)))))))) fun e=>a (.inl (.inr (.inr (.inr (.inr (.inr (.inr e)))))))
end
theorem MS.tick(H:MS w x0 A n k q x s)(v:Int):MS (w.setCell ⟨x0,18,none⟩ v) x0 A n k q {x with time:=v} s/\gw w (w.setCell ⟨x0,18,none⟩ v) (s.U x0) (s.U x0) :=
 have a:Below 0 w (w.setCell ⟨x0,18,none⟩ v):=(Below.refl 0 w).setCell (p:=⟨x0,18,none⟩) (aV _) _
 have c:∀b,b≠x0->(w.setCell ⟨x0,18,none⟩ v).heap[b]?=w.heap[b]?:=fun b h=>dp _ _ _ _ h
 ⟨H.upd a (fun b _ h=>c b h) (H.blk.bj 18 _) rfl rfl rfl rfl rfl rfl rfl rfl rfl,⟨a,fun b _ h=>c b fun e=>h (.inl (.inl e)),fun _ h=>.inl h⟩⟩
theorem Fa{Q:Rq}(h:(cS x t Q).2≠0):(cS x t Q).1=x:=by exact Yz
theorem Wk(H:MS w x0 A n k q x s)(t:Nat)(ht:t<x.T.length)(NX:x.P.length=x.T.length)(J9:x.S.length=x.T.length)(Q:Rq)(G:Sl)(hq:dG w (s.I w x0) bC G.A Q.cases)(hl:Q.cases.length<=9223372036854775807)(h0:0<=(bm x t).seq)(W:(bm x t).seq<=1048575)(hN:x.N.length<=900000)(R1:0<=x.time/\x.time<=1000000) :
 Calls prog 47 #[.pointer x0,t,.agg (mW Q G).toArray] w fun e w'=>e=.returned (.int .i64 (iB x t Q).2)/\zQ x0 A n k q (iB x t Q).1 w s w':=by
 have Wi:t<x.P.length:=by rw[NX];exact ht
 obtain⟨gT,dT,z,hv,dS,_,_,hc,_⟩:=H.task ht
 obtain⟨gP,dP,zp,b5,dQ,_,_,_,bo,_⟩:=H.IM Wi
 obtain⟨pc,bQ⟩:=aG ((bm x t).pc)
 obtain⟨on,kK⟩:=aG ((gH x t).on)
 have HC:Hid (iB x t Q=if pc≠0\/on=true\/Mo.bk Q=false then(x,15)else if(cS {x with time:=x.time+1} t Q).2≠0 then({x with time:=x.time+1,N:=x.N++[⟨1,t,0,x.time+1,Q,dD⟩,⟨3,t,0,x.time+1,Q,bI 7⟩]},0)else((cS {x with time:=x.time+1} t Q).1,0)):=by unfold Hid iB;rw[bQ,kK]
 obtain⟨w1,oX⟩:=aG (w.alloc (jx Q G.A Q.cases.length G.c))
 have br:Hid (Below w w w1):=by rw[oX];exact ak (aj w) _
 have iT:Hid (af w1 w 42 (mW Q G).toArray):=by rw[oX];exact af.new _ _ _
 obtain⟨rJ,wY⟩:=av (H.more br) (mG w1 Q.kind Q.arg Q.value Q.dflt G.A G.c Q.cases hl (hq.1.below br))
 rw[show bk Q.kind Q.arg Q.value Q.cases=Mo.bk Q from rfl]at wY
 obtain⟨fq,dK⟩:=aG (Mo.bk Q)
 have VQ:=ae dK
 rw[<-dK]at wY HC
 have ct:∀v,Below w w v->v.cell? ⟨gT,t*34,none⟩=some (.int .i64 pc):=fun v c=>(Below.cell c (bb (hc 0 _ rfl))).trans (by rw[bQ];exact hc 0 _ rfl)
 have cp:∀v,Below w w v->v.cell? ⟨gP,t*7,none⟩=some (.bool on):=fun v c=>(Below.cell c (bb (bo 0 _ rfl))).trans (by rw[kK];exact bo 0 _ rfl)
 have dc:=ct w1 br
 have c4:=cp w1 br
 obtain⟨HV,dM,HT,dz,HQ,c0⟩:=cT hv b5 ht Wi hq J9;obtain⟨HH,H0,H1,Dg,dg,pI⟩:=cT H h0 W hN R1 oX
 have e1:IntKind.i64.wrap (x.time+1)=x.time+1:=cD _ aa
 obtain⟨V,lz,jd⟩:=af.aM rJ.blk
 obtain⟨M,-,L⟩:=af.aM iT
 unfold mW at M
 unfold nW at V
 rw[hv,b5]at V
 clear H hq hl hN J9 NX h0 W hv b5 hc bo ct cp bQ kK oX dK R1
 unfold mW
 go_enter func47,ntmps47
 go_upto_region 1 with fail
 rw[<-pI.Y]
 clear pI
 have cC:∀D,Below w w D->iB x t Q=(x,15)->(Ending.returned (.int .i64 15)=.returned (.int .i64 (iB x t Q).2)/\zQ x0 A n k q (iB x t Q).1 w s D):=fun D c e=>by rw[e];exact⟨rfl,zQ.more HH c⟩
 have xp:=ae cC
 clear cC
 by_cases nH:pc=0
 rotate_left
 ·have d1:(pc !=0)=true:=by simpa using nH
  have HZ:=ae nH;clear nH;go_wp2;go_ret;exact xp.Y w1 br (by rw[HC.Y,au (.inl HZ.Y)])
 have d1:(pc !=0)=false:=by rw[nH];rfl
 have HZ:=ae nH
 clear nH
 cases on with
 |true=>go_wp2;go_ret;exact xp.Y w1 br (by rw[HC.Y,au (.inr (.inl (by first|rfl|trivial)))])
 |false =>
  go_wp2_with fail;refine wY.mono ?_;rintro e w2 ⟨rfl,B⟩;obtain⟨bE,q7,jh⟩:=aZ (ai br B) (rJ.more B) (iT.ai B);clear B wY V lz jd M L dc c4 rJ iT;cases fq with
  |false=>go_wp2;go_ret;exact xp.Y w2 bE (by rw[HC.Y,au (.inr (.inr (by first|rfl|trivial)))])
  |true =>
   obtain⟨V,lz,jd⟩:=af.aM q7.blk;obtain⟨M,-,L⟩:=af.aM jh;unfold mW at M;unfold nW at V;clear d1;go_upto_region 4 with fail
   have jI:Hid (iB x t Q=if(cS {x with time:=x.time+1} t Q).2≠0 then({x with time:=x.time+1,N:=x.N++[⟨1,t,0,x.time+1,Q,dD⟩,⟨3,t,0,x.time+1,Q,bI 7⟩]},0)else((cS {x with time:=x.time+1} t Q).1,0)):=HC.trans (ah fun h=>h.elim (fun h=>h HZ) fun h=>h.elim (fun h=>by cases h) fun h=>by cases h);clear HC xp V lz jd M L;obtain⟨(px:Hid _),yz⟩:=MS.tick q7 (x.time+1);have cF:w≠x0:=fun e=>Nat.lt_irrefl _ (e▸HH.blk.lt);have JU:af (w2.setCell ⟨x0,18,none⟩ (.int .i64 (x.time+1))) w 42 (mW Q G).toArray:=jh.bO cF _;have yz:=gw.trans (gw.ext bE _) yz;have uk:dG (w2.setCell ⟨x0,18,none⟩ (.int .i64 (x.time+1))) (fun b=>b<w.heap.size/\¬s.U x0 b) bC G.A Q.cases:=(HQ.same fun b c=>yz.same b c.1 fun e=>e.elim c.2.2.1 c.2.1).mono fun b c=>⟨c.1,fun e=>e.elim c.2.2.1 c.2.1⟩
   obtain⟨um,fZ,jT⟩:=aZ yz JU uk;clear yz JU uk cF;generalize w2.setCell ⟨x0,18,none⟩ (.int .i64 (x.time+1))=w3 at *;obtain⟨C,l⟩:∃C:Mc,C={x with time:=x.time+1}:=⟨_,rfl⟩
   rw[<-l]at px jI;have bz:Q.cases.length<=1000000:=bq (mQ VQ.symm) ag;have xk:=ae (E9 px t (by rw[l];exact HT.Y) (by rw[l];exact c0.Y) Q G jT.1 bz (by rw[l];exact H0.Y) (by rw[l];exact H1.Y) (by rw[l];have:=Dg.Y;show x.N.length<=1000000;omega));obtain⟨er,R6⟩:=aG ((cS C t Q).2);obtain⟨Ki,xx,Fk⟩:=aZ R6 l bz;rw[<-R6]at xk jI;unfold mW at xk;obtain⟨M,-,L⟩:=af.aM fZ;unfold mW at M;clear R6 l bz;go_wp2_with fail;refine xk.mono ?_;rintro e u ⟨rfl,(aq:Hid _)⟩;clear M L xk;by_cases he:er=0
   ·have d1:(er !=0)=false:=by rw[he];rfl
    have HE:=ae he;clear he;go_wp2;go_ret;rw[jI.Y,ah (fun e=>e HE.Y)];obtain⟨s',W,h2⟩:=aq.Y;exact⟨rfl,s',W,gw.trans um h2⟩
   have d1:(er !=0)=true:=by simpa using he
   have HE:=ae he;clear he;obtain⟨P,Qg,Y⟩:=aq.Y;rw[Fa (by rw[<-Ki.Y];exact HE.Y)]at Qg;have hU:∀b,s.U x0 b->b<w.heap.size:=fun b c=>HH.ul c;have b8:w.heap.size<w3.heap.size:=fZ.lt;obtain⟨lC,m8,Kk,xf⟩:=bN ((Y.same w b8 (fun e=>Nat.lt_irrefl _ (hU _ e))).trans fZ) (jT.same fun b c=>Y.same b (Nat.lt_trans c.1 b8) c.2) Qg (gw.trans um Y);have qW:=ae (fun v (hx:Ext u v)=>jZ v Q G Fk (m8.1.below hx.Y));unfold mW at qW;clear Qg Y hU b8 aq px um fZ jT q7 jh;go_upto_region 5 with fail
   have V:=fun v (hx:Ext u v) i=>af.cell (Kk.more hx.Y).blk i;unfold nW at V;have M:=fun v (hx:Ext u v) i=>af.cell (af.ai (show af u w 42 (mW Q G).toArray from lC.Y) hx.Y) i;unfold mW at M;go_cut[7] (fun s7 v=>Yt u ⟨1,t,0,C.time,Q,dD⟩ s7 v);case first =>
    refine wp_region_held_drew (S:=(Ext u)) (by kernel_rfl) (Ext.start _) (fun a=>?_);refine aP 0 a ?_;refine aP 1 a ?_;refine aP 2 a ?_;refine aP 3 a ?_;refine aP 4 a ?_;refine aP 5 a ?_;(try simp only[aC]);refine wpAnyH_ready (rs:=[6,8]) (by kernel_rfl) aD ?_;refine(AllReadyH.cons (o:=⟨some 50,_,_,_,_,_⟩) rfl (fun K d=>?_) (AllReadyH.cons (o:=⟨some 7,_,_,_,_,_⟩) rfl (fun K d=>?_) AllReadyH.nil));go_simp;((with_reducible go_fit (qW.Y _ bc));rintro e O ⟨⟨m,p⟩,rfl,ho,B⟩;have xg:Ext u O:=Ext.to bc B;(try have E7:=(af.kv (af.new u _ _)).ai B);(try have N:=fun i=>af.cell E7 i);(try have Z:=fun i=>af.free E7 i);(try have Er:=E7.lt));go_wp2_with fail;refine d.Y _ _ (Bp) (fun a=>?_);clear d K;(try simp only[aC]);refine aP 7 a ?_;(try simp only[aC]);refine et 8 (fun K d=>?_);go_simp;refine d.Y _ _ (Bp) (fun a=>?_);clear d K;(try simp only[aC]);refine et 9 (fun K d=>?_);go_simp;refine d.Y _ _ (Bp) (fun a=>?_);clear d K;(try simp only[aC]);refine wpAnyH_done (by kernel_rfl) ?_ _;rotate_left;go_simp;refine d.Y _ _ (Bp) (fun a=>?_);clear d K;(try simp only[aC]);refine et 6 (fun K d=>?_);go_simp;((with_reducible go_fit (qW.Y _ bc));rintro e O ⟨⟨m,p⟩,rfl,ho,B⟩;have xg:Ext u O:=Ext.to bc B;(try have E7:=(af.kv (af.new u _ _)).ai B);(try have N:=fun i=>af.cell E7 i);(try have Z:=fun i=>af.free E7 i);(try have Er:=E7.lt));go_wp2_with fail;refine d.Y _ _ (Bp) (fun a=>?_);clear d K;(try simp only[aC]);refine aP 7 a ?_;(try simp only[aC]);refine et 9 (fun K d=>?_);go_simp;refine d.Y _ _ (Bp) (fun a=>?_);clear d K;(try simp only[aC]);refine wpAnyH_done (by kernel_rfl) ?_ _;rotate_left
    ·go_wp2;go_meet;have Ad:af (O.alloc (.cells (zl ⟨1,t,0,C.time,Q,dD⟩ ⟨m,p⟩).toArray 93)) O 93 (zl ⟨1,t,0,C.time,Q,dD⟩ ⟨m,p⟩).toArray:=af.new _ _ _;exact⟨_,⟨m,p⟩,rfl,xg.Y.size,Ad,(ho.1.same fun b c=>(ak (aj O) _).block b c.2).mono fun b c=>⟨c.1,by simp;omega,by have:=c.2;omega⟩,Ext.alloc xg _⟩
    ·clear N Z Er;go_wp2_with fail;have hQ:=aQ (vs:=[.int .i64 1,t,oZ,C.time,Q.kind,Q.arg,Q.value,Q.dflt,.slice m Q.cases.length p,oZ,oZ,oZ,oZ]) (cs:=[oZ,oZ,oZ,oZ,oZ,oZ,oZ,false,oN,oZ,oZ,oZ,oZ]) E7 rfl;have yA:Ext u (aw O u 0 [.int .i64 1,t,oZ,C.time,Q.kind,Q.arg,Q.value,Q.dflt,.slice m Q.cases.length p,oZ,oZ,oZ,oZ]):=ax (aS _) _ _ _ xg.Y;have JU:dG (aw O u 0 [.int .i64 1,t,oZ,C.time,Q.kind,Q.arg,Q.value,Q.dflt,.slice m Q.cases.length p,oZ,oZ,oZ,oZ]) (fun b=>u.heap.size<=b/\b<(aw O u 0 [.int .i64 1,t,oZ,C.time,Q.kind,Q.arg,Q.value,Q.dflt,.slice m Q.cases.length p,oZ,oZ,oZ,oZ]).heap.size/\b≠u.heap.size) bC m Q.cases:=(ho.1.same fun b c=>aO (by have:=c.1;simp at this;omega) _ 0).mono fun b c=>⟨by have:=c.1;simp at this;omega,by rw[bH];exact c.2,by have:=c.1;simp at this;omega⟩
     change Met _ _ (aw O u 0 [.int .i64 1,t,oZ,C.time,Q.kind,Q.arg,Q.value,Q.dflt,.slice m Q.cases.length p,oZ,oZ,oZ,oZ]);generalize aw O u 0 [.int .i64 1,t,oZ,C.time,Q.kind,Q.arg,Q.value,Q.dflt,.slice m Q.cases.length p,oZ,oZ,oZ,oZ]=w6 at *;go_meet;exact⟨_,⟨m,p⟩,rfl,aS _,hQ,JU,yA⟩
   case rest =>
    obtain⟨j,⟨m,p⟩,rfl,Er,X,cw,F⟩:=hcut;obtain⟨f,Nr⟩:∃y:Nt,y=⟨1,t,0,C.time,Q,dD⟩:=⟨_,rfl⟩
    rw[<-Nr]at X;obtain⟨SS,I⟩:∃SS:Nat->Prop,SS=fun b=>P.I u x0 b\/(u.heap.size<=b/\b<wc.heap.size/\b≠j):=⟨_,rfl⟩
    have hU:∀b,P.U x0 b->b<u.heap.size:=fun b c=>Kk.ul c;have R:Hid (NS u x0 j A n k C P SS m Q.cases P.N C.N wc):=by
     have cz:¬P.U x0 j:=fun e=>Nat.lt_irrefl _ (bL (hU _ e) Er);refine⟨(Kk.more F).blk,(Kk.N.move fx (fun b c=>F.block b c.1) fun b c=>F.block b (aI.lt Kk.N c).2).mono fx (fun b c=>by rw[I];exact .inl c),fun b c=>?_,⟨fun e=>cz (.inl (.inr (.inr (.inr (.inl e))))),fun e=>Kk.bO.2.2.1 x0 e rfl,fun e=>cz (.inl (.inl e))⟩,F.mono (aV _),fun b W _ _=>F.block b W,fun b c=>.inl c,⟨Er,X.lt⟩,cw.mono fun b c=>by rw[I];exact .inr c⟩;rw[I]at c;rcases c with c|c
     ·exact⟨bL c.1 F.size,fun e=>c.2.2.1 (.inr (.inr (.inr (.inl e)))),fun e=>c.2.2.1 (.inl e),fun e=>Nat.lt_irrefl _ (bL c.1 (e▸Er))⟩
     ·have cy:¬P.U x0 b:=fun e=>Nat.lt_irrefl _ (bL (hU _ e) c.1);exact⟨c.2.1,fun e=>cy (.inl (.inr (.inr (.inr (.inl e))))),fun e=>cy (.inl (.inl e)),c.2.2⟩
    have AV:Hid (∀b,SS b->P.I u x0 b\/u.heap.size<=b):=fun b c=>by rw[I]at c;exact c.imp id fun h=>h.1
    obtain⟨T,cn⟩:=av X Nr;have c2:Hid (f.aN.cases=Q.cases):=by unfold Hid;rw[Nr]
    have Wl:Hid (C.N=x.N):=by unfold Hid;rw[xx.Y]
    clear X Nr I hU cw F Er V M qW m8 lC;go_upto_region 6 with fail
    have E:j<wc.heap.size:=T.lt;have U:=ae ((ak (aj wc) (.cells #[f.kind,f.th,f.seq,f.time,f.aN.kind,f.aN.arg,f.aN.value,f.aN.dflt,.slice m f.aN.cases.length p,f.res.seq,f.res.cs,f.res.code,f.res.value] 93)).drew);have r:=ae (R.more U);have l:wc.drew.cell? ⟨x0,14,none⟩=some P.N:=af.cell R.kx 14;have b7:(wc.alloc (.cells #[f.kind,f.th,f.seq,f.time,f.aN.kind,f.aN.arg,f.aN.value,f.aN.dflt,.slice m f.aN.cases.length p,f.res.seq,f.res.cs,f.res.code,f.res.value] 93)).drew.cell? ⟨x0,14,none⟩=some P.N:=af.cell r.kx 14;have b6:wc.cell? ⟨x0,14,none⟩=some P.N:=l;have bY:x0<wc.heap.size:=R.kx.lt;have qu:Hid (Rd (wc.alloc (.cells #[f.kind,f.th,f.seq,f.time,f.aN.kind,f.aN.arg,f.aN.value,f.aN.dflt,.slice m f.aN.cases.length p,f.res.seq,f.res.cs,f.res.code,f.res.value] 93)).drew wc (zl f ⟨m,p⟩)):=Rd.lit wc (zl f ⟨m,p⟩) 93;have N:=fun(v:World) (hx:v.heap[j]?=wc.heap[j]?) i=>af.cell (af.rM T hx) i;unfold zl at N;refine wp_region_held_drew (S:=fun v:World=>v.heap[j]?=wc.heap[j]?) (by kernel_rfl) rfl (fun a=>?_);refine aP 0 a ?_;refine aP 1 a ?_;refine aP 2 a ?_;refine aP 3 a ?_;refine aP 5 a ?_;(try simp only[aC]);refine wpAnyH_ready (rs:=[4,6]) (by kernel_rfl) aD ?_;refine(AllReadyH.cons (o:=⟨some 56,_,_,_,_,_⟩) rfl (fun K d=>?_) (AllReadyH.cons (o:=⟨some 58,_,_,_,_,_⟩) rfl (fun K d=>?_) AllReadyH.nil));go_simp;refine d.Y _ _ (by first|assumption|exact(ak (aj wc) _).drew.block j E) (fun a=>?_);clear d K;(try simp only[aC]);refine et 6 (fun K d=>?_);go_simp;refine d.Y _ _ (by first|assumption|exact(ak (aj wc) _).drew.block j E) (fun a=>?_);clear d K;(try simp only[aC]);rotate_left;go_simp;refine d.Y _ _ (by first|assumption|exact(ak (aj wc) _).drew.block j E) (fun a=>?_);clear d K;(try simp only[aC]);refine et 4 (fun K d=>?_);go_simp;refine d.Y _ _ (by first|assumption|exact(ak (aj wc) _).drew.block j E) (fun a=>?_);clear d K;(try simp only[aC]);all_goals
     refine et 7 (fun K d=>?_);refine oI rfl _ _ 76 rfl 93 13 120 _ fx underlying76 oV rfl ag _ C.N rfl r.ow (fun b h=>⟨(r.lt b h).1,(r.lt b h).2.1⟩) _ _ (zl f ⟨m,p⟩) rfl (List.all_eq_true.1 (by rfl)) rfl qu ⟨⟨m,p⟩,rfl,by have h9:=r.q;rw[<-c2.Y]at h9;exact h9⟩ (by have h:=Dg.Y;rw[<-Wl.Y]at h;simp;omega) (by have h:=Dg.Y;rw[<-Wl.Y]at h;simp;omega) ?_;intro v5 w7 lH ux ei;obtain⟨B6,d6,Af⟩:=aI.shape lH;obtain⟨l6,kC⟩:∃l5,l5=(C.N++[f]).length:=⟨_,rfl⟩
     rw[<-kC]at Af;subst Af;clear kC;have Nd:w7.heap[j]?=wc.heap[j]?:=(ux.block j (bL E U.size) (fun e=>r.gx.1 e.symm)).trans (U.block j E);have pJ:af w7 x0 101 _:=(ux.block x0 r.kx.lt fun e=>r.gx.2.1 e.symm).trans r.kx;obtain⟨zO,bR,FD⟩:=af.aM pJ;unfold nW at zO;have J:=r.gx.2.2;obtain⟨rK,Kh,je⟩:=aZ lH ux ei;clear lH ux ei pJ;refine d.Y _ _ (by first|exact Nd) (fun a=>?_);clear d K;(try simp only[aC]);refine aP 8 a ?_;refine aP 9 a ?_;(try simp only[aC]);refine et 10 (fun K d=>?_);go_simp;refine d.Y _ _ ((dp w7 ⟨x0,14,none⟩ _ j J).trans Nd) (fun a=>?_);clear d K;(try simp only[aC]);refine wpAnyH_done (by kernel_rfl) ?_ _;obtain⟨cd,a6⟩:=av (r.app rK Kh je) (af.rM T a);clear a N r l b7 b6 bY J qu Nd zO bR FD rK Kh je E U;generalize w7.setCell ⟨x0,14,none⟩ (.slice B6 l6 d6)=w8 at *
    all_goals
     obtain⟨N,Z,xu⟩:=af.aM a6;unfold zl at N;go_upto_region 8 with fail
     obtain⟨g,Ng⟩:∃y:Nt,y=⟨3,t,0,C.time,Q,bI 7⟩:=⟨_,rfl⟩
     have cv:af (aw (w8.setCell ⟨j,0,none⟩ (.int .i64 3)) j 9 [oZ,oZ,.int .i64 7,oZ]) j 93 (zl g ⟨m,p⟩).toArray:=by have h:=a6.Y;rw[cn.Y]at h;rw[Ng];exact((((h.bj 0 _).bj 9 _).bj 10 _).bj 11 _).bj 12 _
     have bg:=((((cd.Sa 0 (.int .i64 3)).Sa 9 oZ).Sa 10 oZ).Sa 11 (.int .i64 7)).Sa 12 oZ;change NS _ _ _ _ _ _ _ _ _ _ _ _ _ (aw (w8.setCell ⟨j,0,none⟩ (.int .i64 3)) j 9 [oZ,oZ,.int .i64 7,oZ])at bg;change Code.wp _ _ _ _ (aw (w8.setCell ⟨j,0,none⟩ (.int .i64 3)) j 9 [oZ,oZ,.int .i64 7,oZ]);obtain⟨a7,a8,Ti⟩:=aZ bg cv Ng;have c3:Hid (g.aN.cases=Q.cases):=by unfold Hid;rw[Ng]
     clear bg cv Ng N Z xu cd a6 R T;generalize aw (w8.setCell ⟨j,0,none⟩ (.int .i64 3)) j 9 [oZ,oZ,.int .i64 7,oZ]=D at *;have E:j<D.heap.size:=a8.lt;have U:=ae ((ak (aj D) (.cells #[g.kind,g.th,g.seq,g.time,g.aN.kind,g.aN.arg,g.aN.value,g.aN.dflt,.slice m g.aN.cases.length p,g.res.seq,g.res.cs,g.res.code,g.res.value] 93)).drew);have r:=ae (a7.more U);have l:D.drew.cell? ⟨x0,14,none⟩=some (.slice B6 l6 d6):=af.cell a7.kx 14;have b7:(D.alloc (.cells #[g.kind,g.th,g.seq,g.time,g.aN.kind,g.aN.arg,g.aN.value,g.aN.dflt,.slice m g.aN.cases.length p,g.res.seq,g.res.cs,g.res.code,g.res.value] 93)).drew.cell? ⟨x0,14,none⟩=some (.slice B6 l6 d6):=af.cell r.kx 14;have b6:D.cell? ⟨x0,14,none⟩=some (.slice B6 l6 d6):=l;have bY:x0<D.heap.size:=a7.kx.lt;have qu:Hid (Rd (D.alloc (.cells #[g.kind,g.th,g.seq,g.time,g.aN.kind,g.aN.arg,g.aN.value,g.aN.dflt,.slice m g.aN.cases.length p,g.res.seq,g.res.cs,g.res.code,g.res.value] 93)).drew D (zl g ⟨m,p⟩)):=Rd.lit D (zl g ⟨m,p⟩) 93;have N:=fun(v:World) (hx:v.heap[j]?=D.heap[j]?) i=>af.cell (af.rM a8 hx) i;unfold zl at N;refine wp_region_held_drew (S:=fun v:World=>v.heap[j]?=D.heap[j]?) (by kernel_rfl) rfl (fun a=>?_);refine aP 0 a ?_;refine aP 1 a ?_;refine aP 2 a ?_;refine aP 3 a ?_;refine aP 5 a ?_;(try simp only[aC]);refine wpAnyH_ready (rs:=[4,6]) (by kernel_rfl) aD ?_;refine(AllReadyH.cons (o:=⟨some 69,_,_,_,_,_⟩) rfl (fun K d=>?_) (AllReadyH.cons (o:=⟨some 71,_,_,_,_,_⟩) rfl (fun K d=>?_) AllReadyH.nil));go_simp;refine d.Y _ _ (by first|assumption|exact(ak (aj D) _).drew.block j E) (fun a=>?_);clear d K;(try simp only[aC]);refine et 6 (fun K d=>?_);go_simp;refine d.Y _ _ (by first|assumption|exact(ak (aj D) _).drew.block j E) (fun a=>?_);clear d K;(try simp only[aC]);rotate_left;go_simp;refine d.Y _ _ (by first|assumption|exact(ak (aj D) _).drew.block j E) (fun a=>?_);clear d K;(try simp only[aC]);refine et 4 (fun K d=>?_);go_simp;refine d.Y _ _ (by first|assumption|exact(ak (aj D) _).drew.block j E) (fun a=>?_);clear d K;(try simp only[aC]);all_goals
      refine et 7 (fun K d=>?_);refine oI rfl _ _ 76 rfl 93 13 120 _ fx underlying76 oV rfl ag _ (C.N++[f]) rfl r.ow (fun b h=>⟨(r.lt b h).1,(r.lt b h).2.1⟩) _ _ (zl g ⟨m,p⟩) rfl (List.all_eq_true.1 (by rfl)) rfl qu ⟨⟨m,p⟩,rfl,by have h9:=r.q;rw[<-c3.Y]at h9;exact h9⟩ (by have h:=Dg.Y;rw[<-Wl.Y]at h;simp;omega) (by have h:=Dg.Y;rw[<-Wl.Y]at h;simp;omega) ?_;intro v5 wa lH ux ei;obtain⟨B9,d9,Af⟩:=aI.shape lH;obtain⟨l9,kC⟩:∃l5,l5=((C.N++[f])++[g]).length:=⟨_,rfl⟩
      rw[<-kC]at Af;subst Af;clear kC;have Nd:wa.heap[j]?=D.heap[j]?:=(ux.block j (bL E U.size) (fun e=>r.gx.1 e.symm)).trans (U.block j E);have pJ:af wa x0 101 _:=(ux.block x0 r.kx.lt fun e=>r.gx.2.1 e.symm).trans r.kx;obtain⟨zO,bR,FD⟩:=af.aM pJ;unfold nW at zO;have J:=r.gx.2.2;obtain⟨rK,Kh,je⟩:=aZ lH ux ei;clear lH ux ei pJ;refine d.Y _ _ (by first|exact Nd) (fun a=>?_);clear d K;(try simp only[aC]);refine aP 8 a ?_;refine aP 9 a ?_;(try simp only[aC]);refine et 10 (fun K d=>?_);go_simp;refine d.Y _ _ ((dp wa ⟨x0,14,none⟩ _ j J).trans Nd) (fun a=>?_);clear d K;(try simp only[aC]);refine wpAnyH_done (by kernel_rfl) ?_ _;obtain⟨cO,df⟩:=av (r.app rK Kh je) (af.rM a8 a);clear a N r l b7 b6 bY J qu Nd zO bR FD rK Kh je E U;generalize wa.setCell ⟨x0,14,none⟩ (.slice B9 l9 d9)=wb at *
     all_goals
      go_wp2;go_ret;rw[jI.Y,au HE.Y];obtain⟨W,h2⟩:=cO.fin Kk AV;refine⟨rfl,_,?_,gw.trans xf h2⟩;rw[cn.Y,Ti.Y,List.append_assoc,xx.Y]at W;exact W
end
variable[OW]
def Sb(e:Ev)(z o:Sl):List Value:=[e.kind,e.th,e.aN.kind,e.aN.arg,e.aN.value,e.aN.dflt,.slice z.A e.aN.cases.length z.c,e.fp,.slice o.A e.outs.length o.c]
section
variable{w:World} {x0:Nat} {A:Option Addr} {n k q:Nat} {x:Mo.Mc} {s:Sx}
theorem Wm(H:MS w x0 A n k q x s)(e:Ev)(z o:Sl)(t:Nat)(YD:e.th=t)(ht:t<x.T.length)(NX:x.P.length=x.T.length)(ho:bJ w .i64 o.A e.outs)(V:e.outs.length<=9223372036854775807)(YE:e.outs.length<=o.c)(R1:0<=x.time/\x.time<=1000000) :
 Calls prog 48 #[.pointer x0,.agg (Sb e z o).toArray] w fun r w'=>r=.returned (.int .i64 (iZ x t e.fp e.outs).2)/\zQ x0 A n k q (iZ x t e.fp e.outs).1 w s w':=by
 have Wi:t<x.P.length:=by rw[NX];exact ht
 obtain⟨gT,dT,zt,hv,b7,_,_,hc,_⟩:=H.task ht
 obtain⟨gP,dP,zp,W,b5,_,_,_,N,_⟩:=H.IM Wi
 obtain⟨pc,bQ⟩:=aG ((bm x t).pc)
 obtain⟨on,kK⟩:=aG ((gH x t).on)
 obtain⟨op,G⟩:=aG (kT e.fp e.outs)
 have aq:Hid (op=none->iZ x t e.fp e.outs=(x,15)):=fun h=>by unfold iZ;rw[<-G,h]
 have vZ:Hid (∀p,op=some p->iZ x t e.fp e.outs=if x.c.kind≠3\/pc≠0\/on=true then(x,15)else({x with time:=x.time+1,P:=x.P.set t p},0)):=fun p h=>by unfold iZ;rw[<-G,h,bQ,kK]
 obtain⟨P,oX⟩:=aG (w.alloc (.cells #[e.kind,t,e.aN.kind,e.aN.arg,e.aN.value,e.aN.dflt,.slice z.A e.aN.cases.length z.c,e.fp,.slice o.A e.outs.length o.c] 57))
 have Q:Hid (Below w w P):=by rw[oX];exact ak (aj w) _
 have iT:Hid (af P w.heap.size 57 #[e.kind,t,e.aN.kind,e.aN.arg,e.aN.value,e.aN.dflt,.slice z.A e.aN.cases.length z.c,e.fp,.slice o.A e.outs.length o.c]):=by rw[oX];exact af.new _ _ _
 have D:=ae (E5 P e.fp o.A e.outs.length o.c e.outs rfl V YE (ho.below Q))
 rw[<-G]at D
 unfold PsE ma at D
 have ct:∀g,Below w w g->g.cell? ⟨gT,t*34,none⟩=some (.int .i64 pc):=fun g d=>(Below.cell d (bb (hc 0 _ rfl))).trans (by rw[bQ];exact hc 0 _ rfl)
 have cp:∀g,Below w w g->g.cell? ⟨gP,t*7,none⟩=some (.bool on):=fun g d=>(Below.cell d (bb (N 0 _ rfl))).trans (by rw[kK];exact N 0 _ rfl)
 obtain⟨a6,pH,HV,E,HT,L⟩:=cT ct cp hv W ht Wi
 obtain⟨HH,bR,pI⟩:=aZ H R1 oX
 have e1:IntKind.i64.wrap (x.time+1)=x.time+1:=cD _ aa
 obtain⟨Z,-,O⟩:=af.aM iT
 unfold Sb
 rw[YD]
 clear H ho V YE NX hv W hc N ct cp bQ kK G oX R1 YD
 go_enter func48,ntmps48
 go_upto_region 1 with fail
 rw[<-pI.Y]
 clear pI
 have U:∀w9,Below w w w9->iZ x t e.fp e.outs=(x,15)->(Ending.returned (.int .i64 15)=.returned (.int .i64 (iZ x t e.fp e.outs).2)/\zQ x0 A n k q (iZ x t e.fp e.outs).1 w s w9):=fun w9 d e=>by rw[e];exact⟨rfl,zQ.more HH d⟩
 have xp:=ae U
 clear U
 go_wp2_with fail
 refine D.mono ?_
 rintro r j ⟨c,rfl,(ft:Hid _),F⟩
 obtain⟨bE,jh,J⟩:=aZ (ai Q F) (iT.ai F) F
 clear F D Z O iT
 rcases op with _|p
 ·go_upto_region 2 with fail
  go_quiet(fail);go_wp2;go_ret;exact xp.Y _ (by first|exact ak bE _|exact bV (ak bE _) _) (aq (by first|rfl|trivial))
 ·have y:=ae (ak bE (.cells #[p.on,p.shut,p.over,p.fp,.slice c.A p.outs.length c.c,p.at_,p.value] 86));dsimp only[Option.getD_some]at ft;obtain⟨m,v⟩:=aG (j.alloc (.cells #[p.on,p.shut,p.over,p.fp,.slice c.A p.outs.length c.c,p.at_,p.value] 86));have J2:=ae v;have NJ:Hid (af m j.heap.size 86 #[p.on,p.shut,p.over,p.fp,.slice c.A p.outs.length c.c,p.at_,p.value]):=by rw[v];exact af.new _ _ _
  have fZ:Hid (af m w.heap.size 57 #[e.kind,t,e.aN.kind,e.aN.arg,e.aN.value,e.aN.dflt,.slice z.A e.aN.cases.length z.c,e.fp,.slice o.A e.outs.length o.c]):=by rw[v];exact jh.alloc _
  have jr:Hid (dx m (fun b=>P.heap.size<=b/\b<m.heap.size) .i64 c.A p.outs/\p.outs.length<=c.c):=by rw[v];exact⟨(ft.1.same fun b d=>(ak (aj j) _).block b d.2).mono fun b d=>⟨d.1,bL d.2 (ak (aj j) _).size⟩,ft.2⟩
  have Lg:Hid (P.heap.size<=j.heap.size):=J.size;rw[<-v]at y;have px:=ae (HH.more y);have G0:=vZ.Y p rfl;have XX:=ae G0;have bY:w.heap.size<j.heap.size:=jh.lt;clear v G0 jh ft J;go_upto_region 2 with fail
  rw[<-J2.Y];clear J2;obtain⟨C,-,jd⟩:=af.aM px.blk;unfold nW at C;rw[HV.Y,E.Y]at C;obtain⟨Z,-,O⟩:=af.aM fZ;have bg:=a6.Y m y;have a8:=pH.Y m y;have NK:=HT.Y;have b8:=L.Y;by_cases R:x.c.kind=3;rotate_left
  ·have d1:(x.c.kind !=3)=true:=by simpa using R
   have HK:=ae R;clear R;go_quiet(fail);go_wp2;go_ret;exact xp.Y _ (by first|exact y.Y|exact bV y _) (by rw[XX.Y,au (.inl HK.Y)])
  have d1:(x.c.kind !=3)=false:=by simpa using R
  have HK:=ae R;clear R;by_cases T:pc=0;rotate_left
  ·have d2:(pc !=0)=true:=by simpa using T
   have HZ:=ae T;clear T;go_quiet(fail);go_wp2;go_ret;exact xp.Y _ (by first|exact y.Y|exact bV y _) (by rw[XX.Y,au (.inr (.inl HZ.Y))])
  have d2:(pc !=0)=false:=by simpa using T
  have HZ:=ae T;clear T;cases on with
  |true=>go_quiet(fail);go_wp2;go_ret;exact xp.Y _ (by first|exact y.Y|exact bV y _) (by rw[XX.Y,au (.inr (.inr (by first|rfl|trivial)))])
  |false =>
   go_quiet(fail);have B:Below m m (m.drewN nq):=bV (aj m) nq;obtain⟨gC,Kk,lC,Qa⟩:=bN (bV y nq) (px.more B) (fZ.ai B) (NJ.ai B);have lF:Hid (dx (m.drewN nq) (fun b=>P.heap.size<=b/\b<m.heap.size) .i64 c.A p.outs/\p.outs.length<=c.c):=⟨jr.1.same fun b d=>B.block b d.2,jr.2⟩
   have Fo:(m.drewN nq).heap.size=m.heap.size:=aD;rw[<-Fo]at lF;clear B y px fZ NJ jr C jd Z O bg a8 d1 d2 Fo;generalize m.drewN nq=w4 at *;have hU:∀b,s.U x0 b->b<w.heap.size:=fun b d=>HH.ul d;have J8:=hU x0 (.inl (.inl rfl));have HU:=ae hU;have a7:Hid (∀b,OW.O b->b<w.heap.size):=fun b d=>(HH.ol b d).1;obtain⟨C,lz,jd⟩:=af.aM Kk.blk;unfold nW at C;clear hU;go_upto_region 5 with fail
   obtain⟨(pG:Hid _),Ka⟩:=MS.tick Kk (x.time+1);have FA:=lC.bO (show w.heap.size≠x0 by omega) (.int .i64 (x.time+1)) (p:=⟨x0,18,none⟩);have PE:=Qa.bO (show j.heap.size≠x0 by omega) (.int .i64 (x.time+1)) (p:=⟨x0,18,none⟩);have rK:Hid (dx (w4.setCell ⟨x0,18,none⟩ (.int .i64 (x.time+1))) (fun b=>P.heap.size<=b/\b<w4.heap.size) .i64 c.A p.outs/\p.outs.length<=c.c):=⟨lF.1.same fun b d=>dp _ _ _ _ (show b≠x0 by have:=d.1;have:=Q.size;omega),lF.2⟩
   have Y:(w4.setCell ⟨x0,18,none⟩ (.int .i64 (x.time+1))).heap.size=w4.heap.size:=aD;rw[<-Y]at rK;obtain⟨pW,jV,NN⟩:=aZ (gw.trans (gw.ext gC _) Ka) FA PE;clear Ka FA PE Y C lz jd Kk lC Qa lF gC;generalize w4.setCell ⟨x0,18,none⟩ (.int .i64 (x.time+1))=f at *;obtain⟨u,dQ,zr,I,b6,_,_,_,l,bz⟩:=pG.IM L;have M:=I.symm.trans E;injection M with M
   injection M with M
   injection M with M
   subst M;have c0:=l 0 _ rfl;rw[Nat.add_zero]at c0;have c1:=l 1 _ rfl;have c2:=l 2 _ rfl;have c3:=l 3 _ rfl;have c4:=l 4 _ rfl;have c5:=l 5 _ rfl;have c6:=l 6 _ rfl;have WW:=HU.Y u (.inl (.inr (.inr (.inl (by rw[I];rfl)))));have YC:x0≠u:=fun e=>pG.bO.2.1 u (by rw[I];rfl) e.symm;clear I l;have C:=fun(g:World) (X:g.heap[x0]?=f.heap[x0]?/\g.heap[w.heap.size]?=f.heap[w.heap.size]?/\g.heap[j.heap.size]?=f.heap[j.heap.size]?) i=>af.cell (af.rM pG.blk X.1) i;unfold nW at C;rw[E.Y]at C;have Z:=fun(g:World) (X:g.heap[x0]?=f.heap[x0]?/\g.heap[w.heap.size]?=f.heap[w.heap.size]?/\g.heap[j.heap.size]?=f.heap[j.heap.size]?) i=>af.cell (af.rM jV X.2.1) i;have aB:=fun(g:World) (X:g.heap[x0]?=f.heap[x0]?/\g.heap[w.heap.size]?=f.heap[w.heap.size]?/\g.heap[j.heap.size]?=f.heap[j.heap.size]?) i=>af.cell (af.rM NN X.2.2) i;refine wp_region_held_drew (S:=fun g:World=>g.heap[x0]?=f.heap[x0]?/\g.heap[w.heap.size]?=f.heap[w.heap.size]?/\g.heap[j.heap.size]?=f.heap[j.heap.size]?) (by kernel_rfl) ⟨rfl,rfl,rfl⟩ (fun a=>?_);refine aP 0 a ?_;refine aP 1 a ?_;refine aP 2 a ?_;refine aP 3 a ?_;refine aP 4 a ?_;refine aP 5 a ?_;refine aP 6 a ?_;refine aP 7 a ?_;(try simp only[aC]);refine et 8 (fun K hK=>?_);go_simp;have UP:w.heap.size≠u:=aa;have UQ:j.heap.size≠u:=aa;have hd:∀b,b<f.heap.size->b≠u->(World.drew (aw f u (t*7) [p.on,p.shut,p.over,p.fp,.slice c.A p.outs.length c.c,p.at_,p.value])).heap[b]?=f.heap[b]?:=fun b d hn=>((aj (aw f u (t*7) [p.on,p.shut,p.over,p.fp,.slice c.A p.outs.length c.c,p.at_,p.value])).drew.block b (by rw[bH];exact d)).trans (aO hn [p.on,p.shut,p.over,p.fp,.slice c.A p.outs.length c.c,p.at_,p.value] (t*7));have bo:(World.drew (aw f u (t*7) [p.on,p.shut,p.over,p.fp,.slice c.A p.outs.length c.c,p.at_,p.value])).heap[x0]?=f.heap[x0]?/\(World.drew (aw f u (t*7) [p.on,p.shut,p.over,p.fp,.slice c.A p.outs.length c.c,p.at_,p.value])).heap[w.heap.size]?=f.heap[w.heap.size]?/\(World.drew (aw f u (t*7) [p.on,p.shut,p.over,p.fp,.slice c.A p.outs.length c.c,p.at_,p.value])).heap[j.heap.size]?=f.heap[j.heap.size]?:=⟨hd x0 pG.blk.lt YC,hd _ jV.lt UP,hd _ NN.lt UQ⟩
   change K _ (World.drew (aw f u (t*7) [p.on,p.shut,p.over,p.fp,.slice c.A p.outs.length c.c,p.at_,p.value]));obtain⟨hM,hF⟩:=MS.aaU pG E L p c ⟨rK.1.mono fun b d=>⟨d.2,fun e=>by have:=HU.Y b (.inr e);have:=d.1;have:=Q.size;omega,fun e=>by have:=HU.Y b (.inl e);have:=d.1;have:=Q.size;omega,fun e=>by have:=a7.Y b e;have:=d.1;have:=Q.size;omega⟩,rK.2⟩;obtain⟨CM,xH⟩:=av (hM.more (aj _).drew) (gw.trans hF (gw.ext (aj _).drew _));unfold ma at CM xH;clear hM hF hd;generalize World.drew (aw f u (t*7) [p.on,p.shut,p.over,p.fp,.slice c.A p.outs.length c.c,p.at_,p.value])=w6 at *;refine hK.Y _ _ bo (fun a=>?_);clear hK K;(try simp only[aC]);refine wpAnyH_done (by kernel_rfl) ?_ _;clear a;clear c0 c1 c2 c3 c4 c5 c6 bz C Z aB;go_wp2;go_ret;rw[XX.Y,ah (fun h=>h.elim (fun h=>h HK.Y) fun h=>h.elim (fun h=>h HZ.Y) fun h=>by cases h)];exact⟨rfl,_,CM,gw.trans pW xH⟩
end
section
variable{w:World} {X:Nat->Prop} {p:Nat} {c:Mo.bA} {A:Option Addr} {n k:Nat} {t:Int} {m:Mm} {q:Nat} {r:Mo.Rn} {s:Sh} {o:Sl} {N:Int}
theorem IQ(H:RN w X p c A n k t m q r s o)(g:RB c N r)(HM:∀b mx qx sx z,RN b X p c A n k t mx qx z sx o->z.k.found=r.k.found->z.k.buf=r.k.buf->z.k.aN=r.k.aN->z.k.i=r.k.i->z.k.seq=r.k.seq->Calls prog 169 #[.pointer p] b (cE X p c A n k t mx qx (Rn.cU c t z) b))(hN:N<=100000)(hq:q<=900000)(C:r.k.pc=11):Calls prog 111 #[.pointer p] w (cE X p c A n k t m (q+1) (Rn.eV c t r) w):=by
 have Y:=g.k.i.1;have xI:=g.f.a;unfold mM at xI;have rN:r.k.i<c.threads:=by omega
 have mN:=H.cs.th;have hlen:(r.k.buf.length:Int)=bn c:=by omega
 have U:0<=r.k.bS/\r.k.bS<=100000:=⟨g.k.tr.1,Int.le_trans g.k.tr.2 hN⟩
 obtain⟨Z,T⟩:∃Z:Nat,r.k.i=Z:=⟨r.k.i.toNat,by omega⟩
 have ha:=(dO H.cs.eN Y rN).2.2.2.1;obtain⟨HA,C8⟩:=av (fun b=>jW b H.cs.eN A k n r.k.i Y (by omega)) (fun b (h:RN b X p c A n k t m q r s o)=>vB b h.cs.eN h.cs.n h.cf.1 r.k.buf s.bf.A r.k.buf.length s.bf.c rfl hlen h.tk.bf.1 Z (T▸rN) (k:=k));have F:=tH c g.k.buf r.k.i;obtain⟨y,J⟩:∃y,y=jq c r.k.buf r.k.i:=⟨_,rfl⟩
 obtain⟨x,V⟩:∃x,x=ay r.L (bZ c r.k.i):=⟨_,rfl⟩
 rw[<-T, <-J]at C8;rw[<-J]at F;have f:=g.L.at_ (bZ c r.k.i);have kZ:=ae (fun b (h:RN b X p c A n k t m q r s o)=>cQ h hq _ ha.1);rw[<-V]at kZ f;have hE:Rn.eV c t r=if Mo.behind x y=false then Rn.cU c t {r with k:={r.k with word:=x}}else({r with k:={r.k with word:=x}}:Rn).pc 12:=by unfold Rn.eV;dsimp only;rw[au C, <-V, <-J]
 have O:=ae (fun b=>xR b x y f.1 f.2 F.1 F.2);rw[zj f F]at O;obtain⟨L,HH⟩:=av hE H;obtain⟨R,Q,D,d,B⟩:=H.cK;have j:=HH.Y.cx;unfold bw at j;obtain⟨a,G,-⟩:=af.aM HH.Y.blk;unfold bw at a;rw[C]at a;clear H g hE V J f F ha xI Y rN mN hlen U T;rcases u:Mo.behind x y with _|_
 all_goals
  first
   |rw[au u]at L
   |rw[ah (by rw[u];decide)]at L
  rw[u]at O;rw[L.Y];go_enter func111,ntmps111;go_wp2_with fail;clear a G;go_region_held3(RX w p m 0 0) (exact gj) (first
   |((with_reducible go_fit (C8.Y _ (by assumption)));rintro e wD ⟨rfl,K⟩;have Kc:=RX.below (by assumption) K;(try have RQ:=D.Y _ _ (by assumption) K);(try have zi:=d.Y _ _ (by assumption) K)))
  obtain⟨W,uz⟩:=av RQ zi;clear j B R Q D d K Kc RQ zi;have gZ:=ae W.Y;obtain⟨R,Q,D,d,B⟩:=W.Y.cK;obtain⟨j,qQ,lz,jd⟩:=gZ.Y.FJ 18 19;unfold bw at j;dsimp only at j;rw[C]at j;have a:=fun i=>af.cell W.Y.blk i;unfold bw at a;rw[C]at a;go_wp2_with fail;clear a;go_region_held3(RX wD p m 18 19) (exact gj) (first
   |((with_reducible go_fit (HA.Y _));rintro e wA ⟨rfl,P⟩;have mX:=RX.below (by assumption) P;(try have mY:=D.Y _ _ (by assumption) P);(try have nE:=d.Y _ _ (by assumption) P))
   |((with_reducible go_fit (kZ.Y _ (by assumption)));rintro e wC ⟨rfl,mC,S,I⟩;have jK:=RX.acc (by assumption) gZ.Y.blk I (S.kept I rfl);have eG:=cu.trans (by assumption) I))
  obtain⟨M,HF⟩:=av S (uz.Y.trans eG);clear S I eG j qQ lz jd B R Q D d jK;have kG:RN (wC.setCell ⟨p,18,none⟩ (.int .u64 x)) X p c A n k t mC (q+1) {r with k:={r.k with word:=x}} s o:=RN.leaf M.Y s o {M.Y.tk with} M.Y.op rfl;obtain⟨H2,oH⟩:=av kG (((fT.refl wC p).set 18 (.int .u64 x)).fr mC);clear kG;generalize(wC.setCell ⟨p,18,none⟩ (.int .u64 x))=w2 at *;obtain⟨a,G,B⟩:=af.aM H2.Y.blk;unfold bw at a;dsimp only at a;go_wp2_with fail;(with_reducible go_fit (O.Y _));rintro e w4 ⟨rfl,l⟩;obtain⟨E,xf⟩:=av (H2.Y.more l) ((HF.Y.trans oH.Y).trans (cu.ext l p mC));clear l a G B;obtain⟨a,G,B⟩:=af.aM E.Y.blk;unfold bw at a;dsimp only at a;rw[C]at a;go_wp2_with fail
 ·go_fit (HM _ _ _ _ _ E.Y rfl rfl rfl rfl rfl);rintro e w3 ⟨rfl,(HX:Hid _)⟩;go_wp2;refine bodyPost_ret (v:=.tuple #[]) (by simp[results,results111,go_sem]) rfl ?_;exact cE.then xf.Y ⟨rfl,HX.Y⟩
 ·go_end0;refine cE.then xf.Y ?_;exact cE.leaf E.Y s o {E.Y.tk with} E.Y.op rfl
theorem IU(H:RN w X p c A n k t m q r s o)(j:RB c N r)(HM:∀f mx qx sx i,RN f X p c A n k t mx qx i sx o->i.k.found=r.k.found->i.k.buf=r.k.buf->i.k.aN=r.k.aN->i.k.i=r.k.i->i.k.seq=r.k.seq->Calls prog 169 #[.pointer p] f (cE X p c A n k t mx qx (Rn.cU c t i) f))(hN:N<=100000)(hq:q<=900000)(F:r.k.pc=12):Calls prog 111 #[.pointer p] w (cE X p c A n k t m (q+1) (Rn.eV c t r) w):=by
 have Z:=j.k.i.1;have xI:=j.f.a;unfold mM at xI;have rN:r.k.i<c.threads:=by omega
 have mN:=H.cs.th;have hlen:(r.k.buf.length:Int)=bn c:=by omega
 have aq:0<=r.k.bS/\r.k.bS<=100000:=⟨j.k.tr.1,Int.le_trans j.k.tr.2 hN⟩
 obtain⟨jn,V⟩:∃jn:Nat,r.k.i=jn:=⟨r.k.i.toNat,by omega⟩
 have T:=(dO H.cs.eN Z rN).2.2.2.1;obtain⟨HA,C8⟩:=av (fun f=>jW f H.cs.eN A k n r.k.i Z (by omega)) (fun f (h:RN f X p c A n k t m q r s o)=>vB f h.cs.eN h.cs.n h.cf.1 r.k.buf s.bf.A r.k.buf.length s.bf.c rfl hlen h.tk.bf.1 jn (V▸rN) (k:=k));have xn:=tH c j.k.buf r.k.i;obtain⟨y,G⟩:∃y,y=jq c r.k.buf r.k.i:=⟨_,rfl⟩
 obtain⟨x,W⟩:∃x,x=ay r.L (bZ c r.k.i):=⟨_,rfl⟩
 rw[<-V, <-G]at C8;rw[<-G]at xn;have J:=ae (fun f (h:RN f X p c A n k t m q r s o)=>oG h hq (bZ c r.k.i) r.k.word y T.1 T.2);rw[<-W]at J;have S:Rn.eV c t r=if x=r.k.word\/r.k.bS+1=2 then Rn.cU c t {(if x=r.k.word then r.store (bZ c r.k.i) y else r)with k:={r.k with bS:=r.k.bS+1}}else({(if x=r.k.word then r.store (bZ c r.k.i) y else r)with k:={r.k with bS:=r.k.bS+1}}:Rn).pc 11:=by unfold Rn.eV;dsimp only;rw[ah (by omega), <-W, <-G]
 obtain⟨L,C⟩:∃L,(if x=r.k.word then r.store (bZ c r.k.i) y else r)={r with L:=L}:=by
  split
  ·exact⟨_,rfl⟩
  ·exact⟨r.L,rfl⟩
 rw[C]at S J;have K:=ae S;obtain⟨b,U⟩:∃b,b=(x==r.k.word):=⟨_,rfl⟩
 have xc:b=true↔x=r.k.word:=by rw[U,beq_iff_eq]
 rw[<-U]at J;obtain⟨z,HH⟩:=av xc H;obtain⟨P,O,B,d,l⟩:=H.cK;have g:=HH.Y.cx;unfold bw at g;obtain⟨a,u,-⟩:=af.aM HH.Y.blk;unfold bw at a;rw[F]at a;clear H j S W G xn T xI Z rN mN hlen V C U xc;go_enter func111,ntmps111;go_wp2_with fail;clear a u;go_region_held3(RX w p m 0 0) (exact gj) (first
  |((with_reducible go_fit (C8.Y _ (by assumption)));rintro e wD ⟨rfl,I⟩;have Kc:=RX.below (by assumption) I;(try have RQ:=B.Y _ _ (by assumption) I);(try have zi:=d.Y _ _ (by assumption) I)))
 obtain⟨Y,uz⟩:=av RQ zi;clear g l P O B d I Kc RQ zi;have gZ:=ae Y.Y;obtain⟨P,O,B,d,l⟩:=Y.Y.cK;have g:=gZ.Y.cx;unfold bw at g;dsimp only at g;rw[F]at g;obtain⟨a,u,-⟩:=af.aM Y.Y.blk;unfold bw at a;rw[F]at a;go_wp2_with fail;clear a u;go_region_held3(RX wD p m 0 0) (exact gj) (first
  |((with_reducible go_fit (HA.Y _));rintro e wA ⟨rfl,M⟩;have mX:=RX.below (by assumption) M;(try have mY:=B.Y _ _ (by assumption) M);(try have nE:=d.Y _ _ (by assumption) M))
  |((with_reducible go_fit (J.Y _ (by assumption)));rintro e wC ⟨rfl,mC,R,E⟩;have jK:=RX.acc (by assumption) gZ.Y.blk E (R.kept E rfl);have eG:=cu.trans (by assumption) E))
 all_goals
  obtain⟨D,HF⟩:=av R (uz.Y.trans eG);clear R E eG g l P O B d jK;obtain⟨a,u,l⟩:=af.aM D.Y.blk;unfold bw at a;dsimp only at a;rw[F]at a;go_upto_region 8 with fail
  clear a u l;have kG:RN (wC.setCell ⟨p,11,none⟩ (.int .i64 (r.k.bS+1))) X p c A n k t mC (q+1) {r with L:=L,k:={r.k with bS:=r.k.bS+1}} s o:=RN.leaf D.Y s o {D.Y.tk with} D.Y.op rfl;obtain⟨H2,oH⟩:=av kG (((fT.refl wC p).set 11 (.int .i64 (r.k.bS+1))).fr mC);clear kG;generalize(wC.setCell ⟨p,11,none⟩ (.int .i64 (r.k.bS+1)))=w2 at *;obtain⟨a,u,l⟩:=af.aM H2.Y.blk;unfold bw at a;dsimp only at a;rcases b with _|_
  ·by_cases v:r.k.bS+1=2
   ·have Q:(r.k.bS+1==2)=true:=by rw[v];rfl
    have jv:=ae (K.Y.trans (au (.inr v)));clear v;exact adq
   ·have Q:(r.k.bS+1==2)=false:=by rw[di];exact v
    have jv:=ae (K.Y.trans (ah (fun h=>h.elim (fun e=>absurd (z.Y.2 e) (by decide)) v)));clear v;go_wp2;go_end0;rw[jv.Y];refine cE.then (HF.Y.trans oH.Y) ?_;exact cE.leaf H2.Y s o {H2.Y.tk with} H2.Y.op rfl
  ·have jv:=ae (K.Y.trans (au (.inl (z.Y.1 rfl))));exact adq
theorem CP(H:RN w X p c A n k t m q r s o)(d:RB c N r)(e:∀b i j l a,RN b X p c A n k t i j a l o->a.k.found=r.k.found->a.k.buf=r.k.buf->a.k.aN=r.k.aN->a.k.i=r.k.i->a.k.seq=r.k.seq->Calls prog 169 #[.pointer p] b (cE X p c A n k t i j (Rn.cU c t a) b))(f:N<=100000)(g:q<=900000)(u:11<=r.k.pc)(v:r.k.pc<=12):Calls prog 111 #[.pointer p] w (cE X p c A n k t m (q+1) (Rn.eV c t r) w):=by
 rcases(by omega:r.k.pc=11\/r.k.pc=12)with h|h
 ·exact IQ H d e f g h
 ·exact IU H d e f g h
end
section
variable{w:World} {X:Nat->Prop} {p:Nat} {c:Mo.bA} {A:Option Addr} {n k:Nat} {t:Int} {m:Mm} {q:Nat} {r:Mo.Rn} {s:Sh} {o:Sl} {N:Int}
theorem aI.ge{m:Nat}{P:sU α}{w:World}{e:TypeId}{A:Option Addr}{n c:Nat}{xs:List α}(h:aI e m P w base S (.slice A n c) xs):∀k,(Value.slice A n c).ownBlock=some k->base<=k:=by
 intro k a;cases A with
 |none=>cases a
 |some b=>have:=(aI.lt h rfl).1;injection a with a;subst a;exact this
theorem RX.same{arr:Array Value}(h:af w p 176 arr)(m:Mm)(lo hi:Nat):RX w p m lo hi w:=⟨Below.refl 0 w,fun _ _ _ _=>rfl,arr,arr,h,h,rfl,fun _ _=>rfl⟩
theorem aI.op{S':Nat->Prop}{A:Option Addr}{n c:Nat}{d:List Mo.Op}(h:aI 66 8 NQ w1 base S (.slice A n c) d)(j:∀b,S b->S' b)(f:∀b,base<=b->b<w1.heap.size->S' b):n=d.length/\d.length<=c/\ru w1 S' A d:=by
 obtain⟨k,m,i,e,g⟩:=h.rdX;injection i with h1 h2 h3
 subst h1 h3;exact⟨h2,e,g.mono ku j,fun l a _=>by subst a;exact f _ (aI.lt h rfl).1 (aI.lt h rfl).2⟩
theorem Al(H:RN w X p c A n k t m q r s o)(jQ:0<=r.k.i)(rN:r.k.i<c.threads)(XP:(r.k.found.length:Int)<=c.threads)(bo:∀x∈r.k.found,x.aN.cases.length<=3)(a7:(r.k.buf.length:Int)=bn c)(a8:fE r.k.buf)(bY:r.k.aN.cases.length<=3):Calls prog 169 #[.pointer p] w (cE X p c A n k t m q (Rn.cU c t r) w):=by
 have mN:=H.cs.th;have Cu:Hid (r.k.found.length<=4):=by unfold Hid;omega
 obtain⟨sY,lD,b5,Y,HH⟩:=dh bo a7 a8 bY H;have g:=H.lt;obtain⟨f,v,-⟩:=af.aM HH.Y.blk;unfold bw at f;clear H bo a7 a8 bY XP;by_cases bz:r.k.i+1<c.threads
 ·have hE:Rn.cU c t r={r with k:={r.k with i:=r.k.i+1,bS:=0,pc:=11}}:=by unfold Rn.cU;rw[au bz]
  rw[hE];clear hE;go_enter func169,ntmps169;go_upto_region 3 with fail
  clear f v g;have kG:RN (((w.setCell ⟨p,9,none⟩ (.int .i64 (r.k.i+1))).setCell ⟨p,11,none⟩ oZ).setCell ⟨p,0,none⟩ (.int .i64 11)) X p c A n k t m q {r with k:={r.k with i:=r.k.i+1,bS:=0,pc:=11}} s o:=RN.leaf HH.Y s o {HH.Y.tk with} HH.Y.op rfl;obtain⟨P,oH⟩:=av kG (((((fT.refl w p).set 9 (.int .i64 (r.k.i+1))).set 11 oZ).set 0 (.int .i64 11)).fr m);clear kG;generalize(((w.setCell ⟨p,9,none⟩ (.int .i64 (r.k.i+1))).setCell ⟨p,11,none⟩ oZ).setCell ⟨p,0,none⟩ (.int .i64 11))=w2 at *;obtain⟨f,v,g⟩:=af.aM P.Y.blk;unfold bw at f;dsimp only at f;go_wp2_with fail;go_quiet(fail);go_wp2;go_end0;exact⟨rfl,_,_,_,P.Y.more (bV (aj _) _),oH.Y.trans (cu.ext (bV (aj _) _) p m)⟩
 ·have jv:Hid (Rn.cU c t r={r with k:={r.k with bS:=0,found:=il r.k.found++(if r.k.ke=true then[]else[⟨t,r.k.seq,0,r.k.aN⟩]),next:=nK c r.k.buf (il r.k.found++(if r.k.ke=true then[]else[⟨t,r.k.seq,0,r.k.aN⟩])),i:=0,pc:=13}}):=by unfold Hid Rn.cU;rw[ah bz]
  go_enter func169,ntmps169;go_upto_region 3 with fail
  clear f v g;have kG:RN (((w.setCell ⟨p,9,none⟩ (.int .i64 (r.k.i+1))).setCell ⟨p,11,none⟩ oZ).setCell ⟨p,0,none⟩ (.int .i64 11)) X p c A n k t m q {r with k:={r.k with i:=r.k.i+1,bS:=0,pc:=11}} s o:=RN.leaf HH.Y s o {HH.Y.tk with} HH.Y.op rfl;obtain⟨P,oH⟩:=av kG (((((fT.refl w p).set 9 (.int .i64 (r.k.i+1))).set 11 oZ).set 0 (.int .i64 11)).fr m);clear kG;generalize(((w.setCell ⟨p,9,none⟩ (.int .i64 (r.k.i+1))).setCell ⟨p,11,none⟩ oZ).setCell ⟨p,0,none⟩ (.int .i64 11))=w2 at *;obtain⟨f,v,g⟩:=af.aM P.Y.blk;unfold bw at f;dsimp only at f;go_wp2_with fail;go_quiet(fail);obtain⟨W,Q⟩:=av (fun nq=>P.Y.more (bV (aj w2) nq)) (fun nq=>oH.Y.trans (cu.ext (bV (aj w2) nq) p m));clear f v g;generalize L:World.drewN w2 _=M;have l:Hid (RN M X p c A n k t m q {r with k:={r.k with i:=r.k.i+1,bS:=0,pc:=11}} s o):=by rw[<-L];exact W.Y _
  have T:Hid (cu w M p m m):=by rw[<-L];exact Q.Y _
  clear L W Q;obtain⟨f,v,g⟩:=af.aM l.Y.blk;unfold bw at f;dsimp only at f;have V:=ae (IA M r.k.found s.fo.A r.k.found.length s.fo.c rfl (bq Cu.Y (by decide)) (S:=Im M X p m) (fun b z=>z.1) l.Y.tk.fo.1);go_wp2_with fail;(with_reducible go_fit V.Y);rintro e N ⟨B3,d3,rfl,nR,(y:Hid _)⟩;have jr:=ae nR;obtain⟨rows,q1,q2,q3⟩:=nR;clear V f v g;have f:=fun i=>af.cell (l.Y.more y.Y).blk i;have v:=fun i=>af.free (l.Y.more y.Y).blk i;have g:=(l.Y.more y.Y).lt;unfold bw at f;dsimp only at f;rcases hs:r.k.ke with _|_
  case' true =>
   clear q1 q2 q3;go_upto_region 7 with fail
   obtain⟨E,rfl⟩:∃E,E=N:=⟨_,rfl⟩
   obtain⟨B,rfl⟩:∃B,B=B3:=⟨_,rfl⟩
   obtain⟨d5,rfl⟩:∃d5,d5=d3:=⟨_,rfl⟩
   obtain⟨j,D,K⟩:=jr.Y.op (S':=Im E X p m) (fun b z=>(cu.ext y.Y p m).im z) (fun b h0 j=>Im.fresh l.Y h0 j);obtain⟨a,d⟩:∃a,a=il r.k.found:=⟨_,rfl⟩
   have Bu:Hid (a=il r.k.found++(if r.k.ke=true then[]else[⟨t,r.k.seq,0,r.k.aN⟩])):=by unfold Hid;rw[d,au hs,List.append_nil]
   rw[<-d]at j D K;rw[j];obtain⟨G,rR,u,F⟩:=bN K D (l.Y.more y.Y) (T.Y.trans (cu.ext y.Y p m));clear j D K d jr
  case' false =>
   have iC:=ae q2;have xB:Hid (rows.length<=100):=by unfold Hid;rw[q1];have D:(il r.k.found).length=r.k.found.length:=jS _ _;have:=Cu.Y;omega
   have U:=ae jr.Y.ge;have qu:Hid (∀wd:World,dI (wd.alloc (.cells #[t,r.k.seq,oZ,r.k.aN.kind,r.k.aN.arg,r.k.aN.value,r.k.aN.dflt,.slice s.cs.A r.k.aN.cases.length s.cs.c] 66)) eA wd [jD wg iw jJ (⟨⟨t,r.k.seq,0,r.k.aN⟩,s.cs.A,s.cs.c⟩:y9)]):=fun wd=>Rd.lit wd (wg (⟨⟨t,r.k.seq,0,r.k.aN⟩,s.cs.A,s.cs.c⟩:y9)) 66;obtain⟨jw,jT⟩:=av q1 q3;clear q1 q2 q3;go_wp2_with fail;clear f v g;have g:=(l.Y.more y.Y).lt;have yA:=((RX.same l.Y.blk m 0 0).below y.Y)
   have I:=fun wx (C:RX M p m 0 0 wx) i=>C.cell l.Y.blk (i:=i) (.inr (aV _));unfold bw at I;dsimp only at I;go_region_held3(RX M p m 0 0) (with_reducible(repeat(first|assumption|exact yA.below (aj N).drew|exact yA.below (ak (aj N) _).drew|refine RX.alloc ?_ _))) ((refine mh rfl _ _ 45 rfl M 66 8 80 (.agg #[oZ,oZ,oZ,oZ,oZ,oZ,false,oN]) eA b9 fX underlying45 mH rfl (by decide) _ rows rfl (iC.Y.ai (ak (aj N) _).drew) N 1 1 [jD wg iw jJ (⟨⟨t,r.k.seq,0,r.k.aN⟩,s.cs.A,s.cs.c⟩:y9)] rfl rfl ((qu.Y N).below (aj _).drew) ?_ ?_ ?_ ?_;(have j:=xB.Y;simp only[gL];omega);(have j:=xB.Y;simp only[gL];omega);(have j:=y.Y.size;simp;omega);intro v4 E bR bg cd;clear cd;obtain⟨B,d5,b8⟩:=bR.shape;subst b8;have J:=(ak y.Y _).drew.grown bg (by simp;have:=y.Y.size;omega) U.Y;have CI:=(RX.same l.Y.blk m 0 0).below J));obtain⟨u,F⟩:=av (l.Y.more J) (T.Y.trans (cu.ext J p m));have a6:=aI.app ku jw.Y jT.Y (fun b z=>(J.block b z.1).trans (y.Y.block b z.1).symm) bR (x:=⟨t,r.k.seq,0,r.k.aN⟩) ⟨s.cs.A,s.cs.c,rfl,l.Y.tk.cs.same (fun b z=>J.block b z.1)⟩;obtain⟨j,D,K⟩:=a6.op (S':=Im E X p m) (fun b z=>(cu.ext J p m).im z) (fun b h0 j=>Im.fresh l.Y h0 j);obtain⟨a,d⟩:∃a,a=il r.k.found++[⟨t,r.k.seq,0,r.k.aN⟩]:=⟨_,rfl⟩
   have Bu:Hid (a=il r.k.found++(if r.k.ke=true then[]else[⟨t,r.k.seq,0,r.k.aN⟩])):=by unfold Hid;rw[d,ah (by rw[hs];decide)]
   rw[<-d]at j D K;have hL:rows.length+1=a.length:=by rw[d,eW,gL,jw.Y]
   (try rw[j]);(try rw[hL]);have HL:=ae hL;clear hL;obtain⟨G,rR⟩:=av K D;clear j D K d jr a6 bR bg J CI yA I g U qu jw iC jT xB;obtain⟨f,v,g⟩:=af.aM u.Y.blk;unfold bw at f;dsimp only at f
  all_goals
   have b7:Hid (a.length<=100):=by unfold Hid;rw[Bu.Y,eW];have j:=Cu.Y;have D:(il r.k.found).length=r.k.found.length:=jS _ _;split<;>simp only[List.length_nil,gL]<;>omega
   have Fk:Hid (∀x∈a,x.aN.cases.length<=100000):=by
    intro x C;rw[Bu.Y]at C;rcases List.mem_append.1 C with C|C
    ·exact bq (sY.Y x (ou _ _ C)) (by decide)
    ·split at C;all_goals first
      |(cases C;done)
      |(rw[List.mem_singleton]at C;subst C;exact bq Y.Y (by decide))
   clear Cu sY Y;go_upto_region 8 with fail
   (try rw[HL.Y]);clear f v g;have aq:RN (E.setCell ⟨p,20,none⟩ (.slice B a.length d5)) X p c A n k t m q {r with k:={r.k with i:=r.k.i+1,bS:=0,pc:=11,found:=a}} {s with fo:=⟨B,d5⟩} o:=RN.leaf u.Y {s with fo:=⟨B,d5⟩} o {u.Y.tk with fo:=G.Y,lf:=rR.Y} u.Y.op rfl;obtain⟨H6,O⟩:=av aq (((fT.refl E p).set 20 (.slice B a.length d5)).fr m);clear aq;generalize(E.setCell ⟨p,20,none⟩ (.slice B a.length d5))=w6 at *;have NM:=ae (F.Y.trans O.Y);clear u F O G rR;have YF:=ae (fun wx (h:RN wx X p c A n k t m q {r with k:={r.k with i:=r.k.i+1,bS:=0,pc:=11,found:=a}} {s with fo:=⟨B,d5⟩} o)=>Rt wx h.cs.eN (by have:=h.cs.th;omega) h.cs.n h.cf.1 r.k.buf s.bf.A r.k.buf.length s.bf.c rfl lD.Y b5.Y h.tk.bf.1 a B a.length d5 rfl (bq b7.Y (by decide)) (S:=Im wx X p m) (fun b z=>z.1) h.tk.fo.1 Fk.Y (k:=k));obtain⟨nl,VJ⟩:∃nl,nl=nK c r.k.buf a:=⟨_,rfl⟩
   rw[<-VJ]at YF;have VK:=ae VJ;clear VJ;have gZ:=ae H6.Y;obtain⟨gi,gV,dm,R,g⟩:=H6.Y.cK;obtain⟨I,qQ,lz,jd⟩:=gZ.Y.FJ 17 18;unfold bw at I;dsimp only at I;go_wp2;go_region_held3(RX w6 p m 17 18) (exact gj) (first
    |((with_reducible go_fit (YF.Y _ (by assumption)));rintro e w7 ⟨B7,d7,rfl,Z8,vu⟩;have EW:=RX.below (by assumption) vu;have R7:=dm.Y _ _ (by assumption) vu;have Wf:=R.Y _ _ (by assumption) vu;have Z:=Z8.pP))
   obtain⟨Ah,xH⟩:=av R7 (NM.Y.trans Wf);have b6:Hid (dx w7 (Im w7 X p m) .u64 B7 nl):=⟨Z.2,fun ad ha _=>by subst ha;exact Im.fresh H6.Y (aX Z8 rfl).1 (aX Z8 rfl).2⟩
   clear I qQ lz jd g EW R7 Wf vu Z8 Z gi gV dm R;obtain⟨f,v,g⟩:=af.aM Ah.Y.blk;unfold bw at f;dsimp only at f;go_wp2;go_end0;rw[jv.Y, <-Bu.Y, <-VK.Y];refine cE.then xH.Y ?_;exact cE.leaf Ah.Y {s with fo:=⟨B,d5⟩,nx:=⟨B7,d7⟩} o {Ah.Y.tk with nx:=b6.Y} Ah.Y.op rfl
end
section
variable{w:World} {X:Nat->Prop} {p:Nat} {c:Mo.bA} {A:Option Addr} {n k:Nat} {t:Int} {m:Mm} {q:Nat} {r:Mo.Rn} {s:Sh} {o:Sl} {N:Int}
theorem IV(H:RN w X p c A n k t m q r s o)(I:RB c N r)(U:N<=90000)(hq:q<=900000)(R:r.k.pc=24):Calls prog 115 #[.pointer (some ⟨p,0,none⟩)] w (cE X p c A n k t m (q+1) (Rn.cV c t r) w):=by
 have D:=(I.L.at_ 1).1;have M:=I.g;have kZ:=ae (cQ H hq 1 (by decide));have T:Rn.cV c t r=if Mo.needs (eU r.k.aA (ay r.L 1)) c.aL=false then Rn.cB c {r with k:={r.k with word:=ay r.L 1,aA:=eU r.k.aA (ay r.L 1),i:=0,all:=true,pc:=25}}else{r with k:={r.k with word:=ay r.L 1,aA:=eU r.k.aA (ay r.L 1),i:=0,all:=true,pc:=25}}:=by unfold Rn.cV;rw[au R]
 obtain⟨x,hx⟩:∃x,x=ay r.L 1:=⟨_,rfl⟩
 rw[<-hx]at kZ D M T;have FE:IntKind.i64.wrap x=x:=ky D (by omega);have R9:=ae (fun G j (h:RN G X p c A n k t j (q+1) {r with k:={r.k with word:=x}} s o)=>vU G r.k.aA s.fr.A s.fr.c s.ol.A s.ol.c x (by omega) (h.pls I.k.aA (Int.le_trans U (by decide))));unfold lZ at R9;have Sc:PB N (eU r.k.aA x):=ra I.k.aA _;obtain⟨d,vd⟩:∃d,d=eU r.k.aA x:=⟨_,rfl⟩
 rw[<-vd]at R9 Sc T;obtain⟨Z,vI,uy⟩:=aZ T Sc R;have Dg:Hid (N<=100000):=Int.le_trans U (by decide);obtain⟨Nh,HH⟩:=av U H;have g:=H.lt;obtain⟨a,E,-⟩:=af.aM HH.Y.blk;unfold bw at a;rw[R]at a;clear H T hx I D M U vd Sc R;go_enter func115,ntmps115;go_wp2_with fail;(with_reducible go_fit kZ.Y);rintro e w1 ⟨rfl,j,(V:Hid _),F1⟩;have ur:=ae F1;clear F1 a E g HH;obtain⟨a,E,g⟩:=af.aM V.Y.blk;unfold bw at a;dsimp only at a;rw[uy.Y]at a;go_upto_region 4 with fail
 clear a E g;have kG:RN (w1.setCell ⟨p,18,none⟩ (.int .u64 x)) X p c A n k t j (q+1) {r with k:={r.k with word:=x}} s o:=RN.leaf V.Y s o {V.Y.tk with} V.Y.op rfl;obtain⟨P,oH⟩:=av kG (((fT.refl w1 p).set 18 (.int .u64 x)).fr j);clear kG;generalize(w1.setCell ⟨p,18,none⟩ (.int .u64 x))=F at *;have gZ:=ae P.Y;obtain⟨gi,gV,J,f,g⟩:=P.Y.cK;obtain⟨C,qQ,lz,jd⟩:=gZ.Y.FJ 22 27;unfold bw at C;dsimp only at C;have a:=fun i=>af.cell P.Y.blk i;unfold bw at a;dsimp only at a;go_wp2_with fail;have Yj:F.drew.cell? ⟨p,22,none⟩=some (.int .i64 r.k.aA.own.ix):=a 22;have Yk:F.drew.cell? ⟨p,23,none⟩=some (.int .i64 r.k.aA.own.tag):=a 23;have Yl:F.drew.cell? ⟨p,24,none⟩=some (.slice s.fr.A r.k.aA.free.length s.fr.c):=a 24;have Ym:F.drew.cell? ⟨p,25,none⟩=some (.slice s.ol.A r.k.aA.old.length s.ol.c):=a 25;have Yn:F.drew.cell? ⟨p,26,none⟩=some (.int .i64 r.k.aA.spent):=a 26;clear a;refine wp_region_held_drew (S:=(RX F p j 22 27)) (by kernel_rfl) (RX.start gZ.Y.blk _ _ _) (fun hHeld=>?_);refine aP 0 hHeld ?_;refine aP 1 hHeld ?_;refine aP 2 hHeld ?_;refine aP 3 hHeld ?_;refine aP 4 hHeld ?_;refine aP 6 hHeld ?_;refine aP 7 hHeld ?_;refine aP 8 hHeld ?_;refine aP 9 hHeld ?_;refine aP 10 hHeld ?_;refine aP 11 hHeld ?_;(try simp only[aC]);refine et 5 (fun K y=>?_);go_simp;refine y.Y _ _ gj (fun hHeld=>?_);clear y K;(try simp only[aC]);refine et 12 (fun K y=>?_);go_simp;((rw[gf Yj,gf Yk,gf Yl,gf Ym,gf Yn]);(with_reducible go_fit (R9.Y _ _ (by assumption)));rintro e O ⟨v,z,rfl,l,B,u,d1,rfl,fM,gX,W⟩;unfold lZ;have Kc:=RX.below (by assumption) W;have hD:=J.Y _ _ (by assumption) W;have zi:=f.Y _ _ (by assumption) W);go_wp2_with fail;refine y.Y _ _ gj (fun hHeld=>?_);clear y K;(try simp only[aC]);refine aP 13 hHeld ?_;refine aP 14 hHeld ?_;refine aP 15 hHeld ?_;refine aP 16 hHeld ?_;refine aP 17 hHeld ?_;refine aP 18 hHeld ?_;(try simp only[aC]);refine et 19 (fun K y=>?_);go_simp;refine y.Y _ _ gj (fun hHeld=>?_);clear y K;(try simp only[aC]);refine wpAnyH_done (by kernel_rfl) ?_ _;obtain⟨lC,xf⟩:=av hD ((ur.Y.trans oH.Y).trans zi);have oL:Hid (nU O (Im O X p j) {r.k with word:=x,aA:=d} {s with fr:=⟨l,B⟩,ol:=⟨u,d1⟩}):=wV.tk hD.tk fM gX (fun b h0 h1=>Im.fresh P.Y h0 h1) _ rfl;clear C qQ lz jd g Yj Yk Yl Ym Yn hHeld gi gV J f W Kc hD zi fM gX;obtain⟨a,E,g⟩:=af.aM lC.Y.blk;unfold bw at a;dsimp only at a;go_upto_region 6 with fail
 clear a E g;have Ii:RN ((((((((O.setCell ⟨p,22,none⟩ (.int .i64 d.own.ix)).setCell ⟨p,23,none⟩ (.int .i64 d.own.tag)).setCell ⟨p,24,none⟩ (.slice l d.free.length B)).setCell ⟨p,25,none⟩ (.slice u d.old.length d1)).setCell ⟨p,26,none⟩ (.int .i64 d.spent)).setCell ⟨p,9,none⟩ (.int .i64 0)).setCell ⟨p,13,none⟩ (.bool true)).setCell ⟨p,0,none⟩ (.int .i64 25)) X p c A n k t j (q+1) {r with k:={r.k with word:=x,aA:=d,i:=0,all:=true,pc:=25}} {s with fr:=⟨l,B⟩,ol:=⟨u,d1⟩} o:=RN.leaf lC.Y {s with fr:=⟨l,B⟩,ol:=⟨u,d1⟩} o {oL.Y with} lC.Y.op rfl;obtain⟨H5,Y⟩:=av Ii ((((((((((fT.refl O p).set 22 (.int .i64 d.own.ix)).set 23 (.int .i64 d.own.tag)).set 24 (.slice l d.free.length B)).set 25 (.slice u d.old.length d1)).set 26 (.int .i64 d.spent)).set 9 (.int .i64 0)).set 13 (.bool true)).set 0 (.int .i64 25)).fr j);clear Ii;generalize((((((((O.setCell ⟨p,22,none⟩ (.int .i64 d.own.ix)).setCell ⟨p,23,none⟩ (.int .i64 d.own.tag)).setCell ⟨p,24,none⟩ (.slice l d.free.length B)).setCell ⟨p,25,none⟩ (.slice u d.old.length d1)).setCell ⟨p,26,none⟩ (.int .i64 d.spent)).setCell ⟨p,9,none⟩ (.int .i64 0)).setCell ⟨p,13,none⟩ (.bool true)).setCell ⟨p,0,none⟩ (.int .i64 25))=w5 at *;have pW:=ae (xf.Y.trans Y.Y);clear gZ;have gZ:=ae H5.Y;obtain⟨gi,gV,J,f,g⟩:=H5.Y.cK;have C:=gZ.Y.cx;unfold bw at C;dsimp only at C;have nG:=ae (fun G=>ri G d l B u d1 c.aL);unfold lZ at nG;obtain⟨nd,L⟩:∃nd,nd=Mo.needs d c.aL:=⟨_,rfl⟩
 rw[<-L]at nG Z;have aq:=ae (fun G (h:RN G X p c A n k t j (q+1) {r with k:={r.k with word:=x,aA:=d,i:=0,all:=true,pc:=25}} {s with fr:=⟨l,B⟩,ol:=⟨u,d1⟩} o)=>mf h vI.Y Dg.Y);clear L;go_wp2_with fail;go_region_held3(RX w5 p j 0 0) (exact gj) (first
  |((with_reducible go_fit (nG.Y _));rintro e wN ⟨rfl,Q⟩;have a6:=RX.below (by assumption) Q;(try have YG:=J.Y _ _ (by assumption) Q);(try have YH:=f.Y _ _ (by assumption) Q)))
 obtain⟨xb,NT⟩:=av YG (pW.Y.trans YH);clear C g gi gV J f Q a6 YG YH;obtain⟨a,E,g⟩:=af.aM xb.Y.blk;unfold bw at a;dsimp only at a;cases nd
 ·skip;go_wp2_with fail;go_fit (aq.Y _ xb.Y);rintro e w3 ⟨rfl,(HX:Hid _)⟩;go_wp2_with fail;refine bodyPost_ret (v:=.tuple #[]) (by simp[results,results115,go_sem]) rfl ?_;rw[Z.Y,au (by first|rfl|trivial)];exact cE.then NT.Y ⟨rfl,HX.Y⟩
 ·go_wp2_with fail;refine bodyPost_ret (v:=.tuple #[]) (by simp[results,results115,go_sem]) rfl ?_;rw[Z.Y,ah (by first|decide|(intro h;cases h))];exact⟨rfl,_,_,_,xb.Y,NT.Y⟩
theorem IW(H:RN w X p c A n k t m q r s o)(j:RB c N r)(R:N<=90000)(hq:q<=900000)(M:r.k.pc=26):Calls prog 115 #[.pointer (some ⟨p,0,none⟩)] w (cE X p c A n k t m (q+1) (Rn.cV c t r) w):=by
 have xI:=j.f.a;unfold mM at xI;have FE:IntKind.i64.wrap r.k.word=r.k.word:=ky j.k.word.1 (by omega);have O:(1:Int)<bB c:=by have h:=(dO H.cs.eN H.cs.t0 H.cs.t1).1.2;have:=H.cs.t0;unfold lJ at h;omega
 have a7:r.k.word<=N:=by omega
 have a6:=j.k.word.1;have e2:IntKind.u64.wrap r.k.word=r.k.word:=Br j.k.word.1 (by omega);have e3:IntKind.u64.wrap (r.k.word+1)=r.k.word+1:=Br (by have:=j.k.word.1;omega) (by omega);have e4:IntKind.i64.wrap (r.k.word+1)=r.k.word+1:=ky (by have:=j.k.word.1;omega) (by omega);have P:Rn.cV c t r=(let r1:Rn:={(if ay r.L 1=r.k.word then{r.store 1 (r.k.word+1)with k:={r.k with aA:=eU r.k.aA (r.k.word+1)}}else r)with};let r2:=r1.pc 27;if Mo.needs r2.k.aA c.aL=false then Rn.cB c r2 else r2):=by unfold Rn.cV;rw[ah (by omega),ah (by omega),au M]
 have I:=ae (fun i (h:RN i X p c A n k t m q (r.pc 27) s o)=>oG h hq 1 r.k.word (r.k.word+1) (by decide) O);rw[show(r.pc 27).L=r.L from rfl]at I;obtain⟨x,hx⟩:∃x,x=ay r.L 1:=⟨_,rfl⟩
 rw[<-hx]at I P;by_cases E:x=r.k.word
 ·rw[au E]at I;have pQ:(x==r.k.word)=true:=by rw[E];exact beq_self_eq_true _
  rw[pQ]at I;have R9:=ae (fun i mx (h:RN i X p c A n k t mx (q+1) ((r.pc 27).store 1 (r.k.word+1)) s o)=>vU i r.k.aA s.fr.A s.fr.c s.ol.A s.ol.c (r.k.word+1) (by omega) (h.pls j.k.aA (Int.le_trans R (by decide))));unfold lZ at R9;have Sc:PB N (eU r.k.aA (r.k.word+1)):=ra j.k.aA _;rw[au E]at P;obtain⟨d,vd⟩:∃d,d=eU r.k.aA (r.k.word+1):=⟨_,rfl⟩
  rw[<-vd]at R9 Sc;have pM:Rn.cV c t r=if Mo.needs d c.aL=false then Rn.cB c {r.store 1 (r.k.word+1)with k:={r.k with pc:=27,aA:=d}}else{r.store 1 (r.k.word+1)with k:={r.k with pc:=27,aA:=d}}:=by rw[P,vd];rfl
  obtain⟨J,vI⟩:=av pM Sc;clear E P pM Sc vd;have uy:=ae M;have Dg:Hid (N<=100000):=Int.le_trans R (by decide);obtain⟨Nh,HH⟩:=av R H;have f:=H.lt;obtain⟨a,g,-⟩:=af.aM HH.Y.blk;unfold bw at a;rw[M]at a;clear H j hx R M xI O;go_enter func115,ntmps115;go_upto_region 18 with fail
  clear a g f;have kG:RN (w.setCell ⟨p,0,none⟩ (.int .i64 27)) X p c A n k t m q (r.pc 27) s o:=RN.leaf HH.Y s o {HH.Y.tk with} HH.Y.op rfl;obtain⟨W,oH⟩:=av kG (((fT.refl w p).set 0 (.int .i64 27)).fr m);clear kG;generalize(w.setCell ⟨p,0,none⟩ (.int .i64 27))=w2 at *;obtain⟨a,g,f⟩:=af.aM W.Y.blk;unfold bw Rn.pc at a;dsimp only at a;go_wp2_with fail;(with_reducible go_fit (I.Y _ W.Y));rintro e w1 ⟨rfl,B,(F:Hid _),V⟩;have ur:=ae (oH.Y.trans V);clear V a g f HH;obtain⟨a,g,f⟩:=af.aM F.Y.blk;unfold bw Rn.store Rn.pc at a;dsimp only at a;go_wp2_with fail;(with_reducible go_fit (R9.Y _ _ F.Y));rintro e wD ⟨v,z,rfl,C,G,D,d1,rfl,fM,gX,oM⟩;unfold lZ;obtain⟨lC,xf⟩:=av (F.Y.more oM) (ur.Y.trans (cu.ext oM p B));have oL:Hid (nU wD (Im wD X p B) {r.k with pc:=27,aA:=d} {s with fr:=⟨C,G⟩,ol:=⟨D,d1⟩}):=wV.tk lC.Y.tk fM gX (fun b h0 h1=>Im.fresh F.Y h0 h1) _ rfl;clear a g f fM gX oM;obtain⟨a,g,f⟩:=af.aM lC.Y.blk;unfold bw Rn.store Rn.pc at a;dsimp only at a;go_upto_region 20 with fail
  clear a g f;have Ii:RN (((((wD.setCell ⟨p,22,none⟩ (.int .i64 d.own.ix)).setCell ⟨p,23,none⟩ (.int .i64 d.own.tag)).setCell ⟨p,24,none⟩ (.slice C d.free.length G)).setCell ⟨p,25,none⟩ (.slice D d.old.length d1)).setCell ⟨p,26,none⟩ (.int .i64 d.spent)) X p c A n k t B (q+1) {r.store 1 (r.k.word+1)with k:={r.k with pc:=27,aA:=d}} {s with fr:=⟨C,G⟩,ol:=⟨D,d1⟩} o:=RN.leaf lC.Y {s with fr:=⟨C,G⟩,ol:=⟨D,d1⟩} o {oL.Y with} lC.Y.op rfl;obtain⟨H5,aq⟩:=av Ii (((((((fT.refl wD p).set 22 (.int .i64 d.own.ix)).set 23 (.int .i64 d.own.tag)).set 24 (.slice C d.free.length G)).set 25 (.slice D d.old.length d1)).set 26 (.int .i64 d.spent)).fr B);clear Ii;generalize(((((wD.setCell ⟨p,22,none⟩ (.int .i64 d.own.ix)).setCell ⟨p,23,none⟩ (.int .i64 d.own.tag)).setCell ⟨p,24,none⟩ (.slice C d.free.length G)).setCell ⟨p,25,none⟩ (.slice D d.old.length d1)).setCell ⟨p,26,none⟩ (.int .i64 d.spent))=w5 at *;obtain⟨pW,gZ⟩:=av (xf.Y.trans aq.Y) H5.Y;obtain⟨gi,gV,dm,l,f⟩:=H5.Y.cK;have L:=gZ.Y.cx;unfold bw Rn.store at L;dsimp only at L;have S:=ae (fun i=>ri i d C G D d1 c.aL);unfold lZ at S;obtain⟨T,u⟩:∃T,T=Mo.needs d c.aL:=⟨_,rfl⟩
  rw[<-u]at S J;have K:=ae (fun i (h:RN i X p c A n k t B (q+1) {r.store 1 (r.k.word+1)with k:={r.k with pc:=27,aA:=d}} {s with fr:=⟨C,G⟩,ol:=⟨D,d1⟩} o)=>mf h vI.Y Dg.Y);clear u;go_wp2_with fail;go_region_held3(RX w5 p B 0 0) (exact gj) (first
   |((with_reducible go_fit (S.Y _));rintro e wN ⟨rfl,y⟩;have Q:=RX.below (by assumption) y;(try have Z:=dm.Y _ _ (by assumption) y);(try have YH:=l.Y _ _ (by assumption) y)))
  obtain⟨U,Y⟩:=av Z (pW.Y.trans YH);clear L f gi gV dm l y Q Z YH;obtain⟨a,g,f⟩:=af.aM U.Y.blk;unfold bw Rn.store at a;dsimp only at a;cases T
  ·skip;go_wp2_with fail;go_fit (K.Y _ U.Y);rintro e w3 ⟨rfl,(HX:Hid _)⟩;go_wp2_with fail;refine bodyPost_ret (v:=.tuple #[]) (by simp[results,results115,go_sem]) rfl ?_;rw[J.Y,au (by first|rfl|trivial)];exact cE.then Y.Y ⟨rfl,HX.Y⟩
  ·go_wp2_with fail;refine bodyPost_ret (v:=.tuple #[]) (by simp[results,results115,go_sem]) rfl ?_;rw[J.Y,ah (by first|decide|(intro h;cases h))];exact⟨rfl,_,_,_,U.Y,Y.Y⟩
 ·rw[ah E]at I;have pQ:(x==r.k.word)=false:=by rw[di];exact E
  rw[pQ]at I;rw[ah E]at P;have pM:Rn.cV c t r=if Mo.needs r.k.aA c.aL=false then Rn.cB c (r.pc 27)else r.pc 27:=by rw[P];rfl
  obtain⟨J,vI⟩:=av pM j.k.aA;clear E P pM;have uy:=ae M;have Dg:Hid (N<=100000):=Int.le_trans R (by decide);obtain⟨Nh,HH⟩:=av R H;have f:=H.lt;obtain⟨a,g,-⟩:=af.aM HH.Y.blk;unfold bw at a;rw[M]at a;clear H j hx R M xI O;go_enter func115,ntmps115;go_upto_region 18 with fail
  clear a g f;have kG:RN (w.setCell ⟨p,0,none⟩ (.int .i64 27)) X p c A n k t m q (r.pc 27) s o:=RN.leaf HH.Y s o {HH.Y.tk with} HH.Y.op rfl;obtain⟨W,oH⟩:=av kG (((fT.refl w p).set 0 (.int .i64 27)).fr m);clear kG;generalize(w.setCell ⟨p,0,none⟩ (.int .i64 27))=w2 at *;obtain⟨a,g,f⟩:=af.aM W.Y.blk;unfold bw Rn.pc at a;dsimp only at a;go_wp2_with fail;(with_reducible go_fit (I.Y _ W.Y));rintro e w1 ⟨rfl,B,(F:Hid _),V⟩;have ur:=ae (oH.Y.trans V);clear V a g f HH;obtain⟨a,g,f⟩:=af.aM F.Y.blk;unfold bw Rn.pc at a;dsimp only at a;go_upto_region 20 with fail
  clear a g f;have gZ:=ae F.Y;obtain⟨gi,gV,dm,l,f⟩:=F.Y.cK;have L:=gZ.Y.cx;unfold bw Rn.pc at L;dsimp only at L;have S:=ae (fun i=>ri i r.k.aA s.fr.A s.fr.c s.ol.A s.ol.c c.aL);unfold lZ at S;obtain⟨T,u⟩:∃T,T=Mo.needs r.k.aA c.aL:=⟨_,rfl⟩
  rw[<-u]at S J;have K:=ae (fun i (h:RN i X p c A n k t B (q+1) (r.pc 27) s o)=>mf h vI.Y Dg.Y);clear u;go_wp2_with fail;go_region_held3(RX w1 p B 0 0) (exact gj) (first
   |((with_reducible go_fit (S.Y _));rintro e wN ⟨rfl,y⟩;have Q:=RX.below (by assumption) y;(try have Z:=dm.Y _ _ (by assumption) y);(try have YH:=l.Y _ _ (by assumption) y)))
  obtain⟨U,Y⟩:=av Z (ur.Y.trans YH);clear L f gi gV dm l y Q Z YH;obtain⟨a,g,f⟩:=af.aM U.Y.blk;unfold bw Rn.pc at a;dsimp only at a;cases T
  ·skip;go_wp2_with fail;go_fit (K.Y _ U.Y);rintro e w3 ⟨rfl,(HX:Hid _)⟩;go_wp2_with fail;refine bodyPost_ret (v:=.tuple #[]) (by simp[results,results115,go_sem]) rfl ?_;rw[J.Y,au (by first|rfl|trivial)];exact cE.then Y.Y ⟨rfl,HX.Y⟩
  ·go_wp2_with fail;refine bodyPost_ret (v:=.tuple #[]) (by simp[results,results115,go_sem]) rfl ?_;rw[J.Y,ah (by first|decide|(intro h;cases h))];exact⟨rfl,_,_,_,U.Y,Y.Y⟩
theorem IX(H:RN w X p c A n k t m q r s o)(R:RB c N r)(hN:N<=90000)(hq:q<=900000)(bQ:r.k.pc=27):Calls prog 115 #[.pointer (some ⟨p,0,none⟩)] w (cE X p c A n k t m (q+1) (Rn.cV c t r) w):=by
 have jQ:=R.k.i.1;have xI:=R.f.a;unfold mM at xI;have rN:r.k.i<c.threads:=aa;have mN:=H.cs.th;have hi:0<=r.k.i/\r.k.i<=100000:=⟨jQ,aa⟩
 have ha:=(dO H.cs.eN jQ rN).2.1;have V0:Hid (r.k.seen.length<=1000000):=by unfold Hid;have:=R.k.tF;omega
 have Y5:=R.k.tF;obtain⟨HA,kZ⟩:=av (fun D=>qz D H.cs.eN A k n r.k.i jQ aa) (fun D (h:RN D X p c A n k t m q r s o)=>cQ h hq (iq c r.k.i) ha.1);obtain⟨x,hx⟩:=aG (ay r.L (iq c r.k.i));have hE:Rn.cV c t r=if r.k.i+1=c.threads then Rn.cB c {r with k:={r.k with seen:=r.k.seen++[x],i:=r.k.i+1,aA:=lU r.k.aA (r.k.seen++[x])}}else{r with k:={r.k with seen:=r.k.seen++[x],i:=r.k.i+1}}:=by unfold Rn.cV;rw[ah aa,ah aa,ah aa,au bQ, <-hx]
 rw[<-hx]at kZ;obtain⟨iH,HE,HI⟩:=aZ (fun D=>zh D s.se.A r.k.seen.length s.se.c H.tk.ls (fun e=>by have h:=H.tk.se.1;rw[e]at h;rw[h.oQ];rfl)) hE hi;have Dg:Hid (N<=100000):=Int.le_trans hN ag;obtain⟨Nh,a7,Ie,HH⟩:=bN hN R.k.aA Y5 H;obtain⟨gi,gV,dm,E,B⟩:=H.cK;obtain⟨f,G,-⟩:=af.aM HH.blk;unfold bw at f;rw[bQ]at f;clear H R hE hx ha bQ xI jQ rN mN hi hN Y5 G;go_enter func115,ntmps115;go_wp2_with fail;have bY:w.drew.cell? ⟨p,21,none⟩=some (.slice s.se.A r.k.seen.length s.se.c):=f 21;clear f;obtain⟨T,qQ,lz,jd⟩:=HH.FJ 21 22;unfold bw at T;refine wp_region_held_drew (S:=(RX w p m 21 22)) (by kernel_rfl) (RX.start HH.blk _ _ _) (fun a=>?_);refine aP 0 a ?_;refine aP 1 a ?_;refine aP 2 a ?_;refine aP 3 a ?_;refine aP 4 a ?_;refine aP 7 a ?_;refine aP 8 a ?_;refine aP 9 a ?_;refine aP 10 a ?_;refine aP 11 a ?_;refine aP 12 a ?_;refine aP 13 a ?_;refine aP 14 a ?_;refine aP 15 a ?_;refine aP 16 a ?_;(try simp only[aC]);refine et 5 (fun K d=>?_);go_simp;refine d.Y _ _ gj (fun a=>?_);clear d K;(try simp only[aC]);refine et 6 (fun K d=>?_);go_simp;((with_reducible go_fit (iH.Y _));rintro e wA ⟨rfl,rfl⟩);go_wp2_with fail;refine d.Y _ _ gj (fun a=>?_);clear d K;(try simp only[aC]);refine et 17 (fun K d=>?_);go_simp;((with_reducible go_fit (HA.Y _));rintro e wB ⟨rfl,eF⟩;have nD:=RX.below bc eF;(try have zK:=dm.Y _ _ bc eF);(try have qT:=E.Y _ _ bc eF));go_wp2_with fail;refine d.Y _ _ gj (fun a=>?_);clear d K;(try simp only[aC]);refine et 18 (fun K d=>?_);go_simp;((with_reducible go_fit (kZ.Y _ bc));rintro e wC ⟨rfl,l,hC,fC⟩;have jK:=RX.acc bc HH.Y.blk fC (hC.kept fC rfl);have eG:=cu.trans bc fC);go_wp2_with fail;refine d.Y _ _ gj (fun a=>?_);clear d K;(try simp only[aC]);refine et 19 (fun K d=>?_);go_simp;refine d.Y _ _ gj (fun a=>?_);clear d K;(try simp only[aC]);refine et 20 (fun K d=>?_);(refine sI rfl _ _ 43 rfl 44 .u64 underlying43 ry s.se.A r.k.seen.length r.k.seen rfl rfl ?_ ⟨wC,0,none⟩ 1 x rfl ?_ ?_ ?_;(exact hC.tk.se.1.alloc _);(exact bJ.one _ .u64 _ _);(exact V0.Y);intro u y I L ei;have CI:=RX.below bc ei);refine d.Y _ _ gj (fun a=>?_);clear d K;(try simp only[aC]);refine aP 21 a ?_;refine aP 22 a ?_;refine aP 23 a ?_;(try simp only[aC]);refine et 24 (fun K d=>?_);go_simp;refine d.Y _ _ gj (fun a=>?_);clear d K;(try simp only[aC]);refine wpAnyH_done (by kernel_rfl) ?_ _;obtain⟨jV,pW⟩:=av (hC.more (ai (ak (aj _) _) ei)) (eG.trans (cu.ext (ai (ak (aj _) _) ei) p l));have uo:∀b,(wC.alloc (.cells #[.int .u64 x] 44)).heap.size<=b->b<I.heap.size->Im I X p l b:=fun b h0 h1=>Im.fresh hC (by simp at h0;omega) h1;obtain⟨j,F⟩:=aG (r.k.seen++[x]);have M:r.k.seen.length+1=j.length:=by rw[F];simp
 rw[<-F]at L;rw[M]at L ⊢;have oL:Hid (nU I (Im I X p l) {r.k with seen:=j} {s with se:=⟨u,y⟩}):={jV.tk with se:=⟨L.pP.2,fun ad ha _=>by subst ha;exact uo _ (aX L rfl).1 (aX L rfl).2⟩,ls:=L.cap.2}
 obtain⟨br,lD⟩:=av F M;clear uo L ei CI nD zK qT eF hC fC jK eG a F M T qQ lz jd bY B;have Yp:RN (I.setCell ⟨p,21,none⟩ (.slice u j.length y)) X p c A n k t l (q+1) {r with k:={r.k with seen:=j}} {s with se:=⟨u,y⟩} o:=RN.leaf jV {s with se:=⟨u,y⟩} o oL jV.op rfl;obtain⟨H7,W⟩:=av Yp (((fT.refl I p).set 21 (.slice u j.length y)).fr l);clear Yp;generalize(I.setCell ⟨p,21,none⟩ (.slice u j.length y))=w7 at *;have xH:=ae (pW.trans W);have bz:Hid (j.length<=100000):=by unfold Hid;have:=lD.Y;have:=Ie.Y;have:=Nh.Y;omega
 clear jV pW W oL;obtain⟨f,G,B⟩:=af.aM H7.blk;unfold bw at f;dsimp only at f;have jQ:=HI.1;have b6:=HI.2;go_upto_region 25 with fail
 clear f G B;have a8:RN (w7.setCell ⟨p,9,none⟩ (.int .i64 (r.k.i+1))) X p c A n k t l (q+1) {r with k:={r.k with seen:=j,i:=r.k.i+1}} {s with se:=⟨u,y⟩} o:=RN.leaf H7 {s with se:=⟨u,y⟩} o {H7.tk with} H7.op rfl;obtain⟨H8,bo⟩:=av a8 (((fT.refl w7 p).set 9 (.int .i64 (r.k.i+1))).fr l);clear a8;generalize(w7.setCell ⟨p,9,none⟩ (.int .i64 (r.k.i+1)))=w8 at *;have Y:=ae (xH.trans bo);obtain⟨f,G,B⟩:=af.aM H8.blk;unfold bw at f;dsimp only at f;by_cases U:r.k.i+1=c.threads
 ·have b5:(r.k.i+1==c.threads)=true:=by rw[U];exact beq_self_eq_true _
  have C:=HE.Y;rw[au U, <-br.Y]at C;clear U;go_wp2_with fail;go_quiet(fail);go_wp2_with fail;obtain⟨a6,Z⟩:=av (fun nq=>H8.more (bV (aj w8) nq)) (fun nq=>Y.trans (cu.ext (bV (aj w8) nq) p l));clear f G B;generalize O:World.drewN w8 _=J;have H9:Hid (RN J X p c A n k t l (q+1) {r with k:={r.k with seen:=j,i:=r.k.i+1}} {s with se:=⟨u,y⟩} o):=by rw[<-O];exact a6.Y _
  have VC:Hid (cu w J p m l):=by rw[<-O];exact Z.Y _
  clear O a6 Z;have NU:=ae (fun D (h:RN D X p c A n k t l (q+1) {r with k:={r.k with seen:=j,i:=r.k.i+1}} {s with se:=⟨u,y⟩} o)=>DZ D r.k.aA s.fr.A s.fr.c s.ol.A s.ol.c u j.length y j rfl bz h.tk.se.1 (h.pls a7 Dg));unfold lZ at NU;have Sc:PB N (lU r.k.aA j):=ra a7 _;obtain⟨g,vd⟩:=aG (lU r.k.aA j);rw[<-vd]at NU Sc C;obtain⟨C,bR⟩:=av C (fun D sx (h:RN D X p c A n k t l (q+1) {r with k:={r.k with seen:=j,i:=r.k.i+1,aA:=g}} sx o)=>mf h Sc Dg);clear vd Sc;have aq:=ae H9;obtain⟨gi,gV,dm,E,B⟩:=H9.cK;obtain⟨T,qQ,lz,jd⟩:=aq.FJ 22 27;unfold bw at T;dsimp only at T;have f:=fun i=>af.cell H9.blk i;unfold bw at f;dsimp only at f;have Yj:J.drew.cell? ⟨p,22,none⟩=some (.int .i64 r.k.aA.own.ix):=f 22;have Yk:J.drew.cell? ⟨p,23,none⟩=some (.int .i64 r.k.aA.own.tag):=f 23;have Yl:J.drew.cell? ⟨p,24,none⟩=some (.slice s.fr.A r.k.aA.free.length s.fr.c):=f 24;have Ym:J.drew.cell? ⟨p,25,none⟩=some (.slice s.ol.A r.k.aA.old.length s.ol.c):=f 25;have Yn:J.drew.cell? ⟨p,26,none⟩=some (.int .i64 r.k.aA.spent):=f 26;clear f;refine wp_region_held_drew (S:=(RX J p l 22 27)) (by kernel_rfl) (RX.start aq.blk _ _ _) (fun a=>?_);refine aP 0 a ?_;refine aP 1 a ?_;refine aP 2 a ?_;refine aP 3 a ?_;refine aP 4 a ?_;refine aP 6 a ?_;refine aP 7 a ?_;refine aP 8 a ?_;refine aP 9 a ?_;refine aP 10 a ?_;(try simp only[aC]);refine et 5 (fun K d=>?_);go_simp;refine d.Y _ _ gj (fun a=>?_);clear d K;(try simp only[aC]);refine et 11 (fun K d=>?_);go_simp;((rw[gf Yj,gf Yk,gf Yl,gf Ym,gf Yn]);(with_reducible go_fit (NU.Y _ bc));rintro e wD ⟨v,z,rfl,P,V,Q,d1,rfl,fM,gX,oM⟩;unfold lZ;have Kc:=RX.below bc oM;have hD:=dm.Y _ _ bc oM;have zi:=E.Y _ _ bc oM);go_wp2_with fail;refine d.Y _ _ gj (fun a=>?_);clear d K;(try simp only[aC]);refine aP 12 a ?_;refine aP 13 a ?_;refine aP 14 a ?_;refine aP 15 a ?_;refine aP 16 a ?_;refine aP 17 a ?_;(try simp only[aC]);refine et 18 (fun K d=>?_);go_simp;refine d.Y _ _ gj (fun a=>?_);clear d K;(try simp only[aC]);refine wpAnyH_done (by kernel_rfl) ?_ _;obtain⟨lC,xf⟩:=av hD (VC.trans zi);have oL:Hid (nU wD (Im wD X p l) {r.k with seen:=j,i:=r.k.i+1,aA:=g} {s with se:=⟨u,y⟩,fr:=⟨P,V⟩,ol:=⟨Q,d1⟩}):=wV.tk hD.tk fM gX (fun b h0 h1=>Im.fresh H9 h0 h1) _ rfl;clear T qQ lz jd B Yj Yk Yl Ym Yn a gi gV dm E oM Kc hD zi fM gX;obtain⟨f,G,B⟩:=af.aM lC.blk;unfold bw at f;dsimp only at f;go_upto_region 27 with fail
  clear f G B;have Ii:RN (((((wD.setCell ⟨p,22,none⟩ (.int .i64 g.own.ix)).setCell ⟨p,23,none⟩ (.int .i64 g.own.tag)).setCell ⟨p,24,none⟩ (.slice P g.free.length V)).setCell ⟨p,25,none⟩ (.slice Q g.old.length d1)).setCell ⟨p,26,none⟩ (.int .i64 g.spent)) X p c A n k t l (q+1) {r with k:={r.k with seen:=j,i:=r.k.i+1,aA:=g}} {s with se:=⟨u,y⟩,fr:=⟨P,V⟩,ol:=⟨Q,d1⟩} o:=RN.leaf lC {s with se:=⟨u,y⟩,fr:=⟨P,V⟩,ol:=⟨Q,d1⟩} o {oL with} lC.op rfl;obtain⟨H5,bg⟩:=av Ii (((((((fT.refl wD p).set 22 (.int .i64 g.own.ix)).set 23 (.int .i64 g.own.tag)).set 24 (.slice P g.free.length V)).set 25 (.slice Q g.old.length d1)).set 26 (.int .i64 g.spent)).fr l);clear Ii;generalize(((((wD.setCell ⟨p,22,none⟩ (.int .i64 g.own.ix)).setCell ⟨p,23,none⟩ (.int .i64 g.own.tag)).setCell ⟨p,24,none⟩ (.slice P g.free.length V)).setCell ⟨p,25,none⟩ (.slice Q g.old.length d1)).setCell ⟨p,26,none⟩ (.int .i64 g.spent))=I at *;obtain⟨f,G,B⟩:=af.aM H5.blk;unfold bw at f;dsimp only at f;go_wp2_with fail;go_fit (bR _ _ H5);rintro e w3 ⟨rfl,(HX:Hid _)⟩;go_wp2_with fail;refine bodyPost_ret (v:=.tuple #[]) (by simp[results,results115,go_sem]) rfl ?_;rw[C.Y];exact cE.then (xf.trans bg) ⟨rfl,HX⟩
 ·have b5:(r.k.i+1==c.threads)=false:=by rw[di];exact U
  have C:=HE.Y;rw[ah U, <-br.Y]at C;have C:=ae C;clear U;go_wp2_with fail;go_quiet(fail);go_wp2_with fail;refine bodyPost_ret (v:=.tuple #[]) (by simp[results,results115,go_sem]) rfl ?_;rw[C.Y];exact⟨rfl,_,_,_,H8.more (bV (aj _) _),Y.trans (cu.ext (bV (aj _) _) p l)⟩
theorem IY(H:RN w X p c A n k t m q r s o)(W:RB c N r)(hN:N<=90000)(hq:q<=900000)(bQ:r.k.pc=25):Calls prog 115 #[.pointer (some ⟨p,0,none⟩)] w (cE X p c A n k t m (q+1) (Rn.cV c t r) w):=by
 have R:=W.k.i.1;have xI:=W.f.a;unfold mM at xI;have rN:r.k.i<c.threads:=aa;have mN:=H.cs.th;have FE:IntKind.i64.wrap r.k.word=r.k.word:=ky W.k.word.1 aa;have hi:0<=r.k.i/\r.k.i<=100000:=⟨R,aa⟩
 have ha:=(dO H.cs.eN R rN).2.2.1;obtain⟨HA,kZ⟩:=av (fun wx=>tV wx H.cs.eN A k n r.k.i R aa) (fun wx (h:RN wx X p c A n k t m q r s o)=>cQ h hq (nL c r.k.i) ha.1);obtain⟨x,hx⟩:=aG (ay r.L (nL c r.k.i));obtain⟨a,C⟩:=aG (r.k.all && (decide (r.k.i=t) || lets x r.k.word));have hE:Rn.cV c t r=if r.k.i+1<c.threads then{r with k:={r.k with all:=a,i:=r.k.i+1}}else{r with k:={r.k with all:=a,i:=0,seen:=[],pc:=if a=true then 26 else 27}}:=by unfold Rn.cV;rw[ah aa,au bQ,C, <-hx]
 rw[<-hx]at kZ;have qu:=ae (fun wx=>Oc x r.k.word wx);have a6:Dm x r.k.word=lets x r.k.word:=by have h0:=W.k.word.1;have h1:r.k.word<=N:=aa;unfold Dm lets;rw[show WS r.k.word=ig r.k.word by unfold WS ig;omega]
 rw[a6]at qu;obtain⟨T,U,P,HH⟩:=bN hE hi C H;obtain⟨Z,Y,V,z,u⟩:=H.cK;have J:=HH.cx;unfold bw at J;obtain⟨b,I,-⟩:=af.aM HH.blk;unfold bw at b;rw[bQ]at b;have uy:=ae bQ;clear H W hE hx ha bQ xI R rN mN hi hN C a6;go_enter func115,ntmps115;go_wp2_with fail;clear b I;go_region_held3(RX w p m 0 0) (exact gj) (first
  |((with_reducible go_fit (HA.Y _));rintro e wA ⟨rfl,bY⟩;have mX:=RX.below bc bY;(try have mY:=V.Y _ _ bc bY);(try have nE:=z.Y _ _ bc bY))
  |((with_reducible go_fit (kZ.Y _ bc));rintro e wC ⟨rfl,f,hC,fC⟩;have jK:=RX.acc bc HH.Y.blk fC (hC.kept fC rfl);have eG:=cu.trans bc fC))
 obtain⟨j,HF⟩:=av hC eG;clear hC fC eG J u jK mX mY nE bY Z Y V z;generalize wC=B at *;rcases OT:r.k.all with _|_
 rotate_left;rcases Q:(r.k.i==t)with _|_
 rotate_right;all_goals
  have F:=ae j;obtain⟨Z,Y,V,z,u⟩:=j.cK;obtain⟨J,qQ,lz,jd⟩:=F.FJ 13 14;unfold bw at J;dsimp only at J;rw[uy.Y]at J;have b:=fun i=>af.cell j.blk i;unfold bw at b;rw[uy.Y]at b;go_wp2_with fail;have l:B.drew.cell? ⟨p,13,none⟩=some (.bool r.k.all):=b 13;rw[OT]at l;clear b
 ·have C:a=false:=by rw[P.Y];rw[OT];rfl
  refine wp_region_held_drew (S:=(RX B p f 13 14)) (by kernel_rfl) (RX.start F.blk _ _ _) (fun hHeld=>?_);refine aP 0 hHeld ?_;refine aP 1 hHeld ?_;refine aP 2 hHeld ?_;refine aP 3 hHeld ?_;refine aP 4 hHeld ?_;(try simp only[aC]);refine et 5 (fun K d=>?_);go_simp;refine d.Y _ _ (by first|(with_reducible exact hHeld)|exact RX.below (RX.set (i:=13) (RX.same F.Y.blk _ _ _) ag _) (aj _).drew) (fun hHeld=>?_);clear d K;rw[gf l];(try simp only[aC]);refine aP 6 hHeld ?_;refine CK 7 hHeld ?_;(try simp only[aC]);refine CK 8 hHeld ?_;(try simp only[aC]);refine CK 9 hHeld ?_;(try simp only[aC]);refine CK 10 hHeld ?_;(try simp only[aC]);refine CK 11 hHeld ?_;(try simp only[aC]);refine CK 12 hHeld ?_;(try simp only[aC]);refine CK 13 hHeld ?_;(try simp only[aC]);refine CK 14 hHeld ?_;(try simp only[aC]);refine CK 15 hHeld ?_;(try simp only[aC]);refine CK 16 hHeld ?_;(try simp only[aC]);refine CK 17 hHeld ?_;(try simp only[aC]);refine CK 18 hHeld ?_;(try simp only[aC]);refine CK 19 hHeld ?_;(try simp only[aC]);refine CK 20 hHeld ?_;(try simp only[aC]);refine CK 21 hHeld ?_;(try simp only[aC]);refine aP 22 hHeld ?_;refine aP 23 hHeld ?_;refine aP 24 hHeld ?_;refine aP 25 hHeld ?_;(try simp only[aC]);refine et 26 (fun K d=>?_);go_simp;refine d.Y _ _ (by first|(with_reducible exact hHeld)|exact RX.below (RX.set (i:=13) (RX.same F.Y.blk _ _ _) ag _) (aj _).drew) (fun hHeld=>?_);clear d K;(try simp only[aC]);refine wpAnyH_done (by kernel_rfl) ?_ _;clear hHeld J qQ lz jd u l Z Y V z;have M:RN (B.setCell ⟨p,13,none⟩ (.bool false)).drew X p c A n k t f (q+1) {r with k:={r.k with all:=a}} s o:=by
   apply RN.at_ (s':=s) (o':=o) j;case hA=>exact Tb
   case hK=>(with_reducible(repeat(first|apply af.bj|apply af.drewN|apply af.kv|apply af.alloc|exact j.Y.blk)))
   case he=>rw[C];rfl
   case hL=>rfl
   case tk=>exact{j.tk with}
   case op=>exact j.op
  obtain⟨y,um⟩:=av M (HF.trans ((((fT.refl B p).set 13 (.bool false)).drew).fr f));clear M C;generalize(B.setCell ⟨p,13,none⟩ (.bool false)).drew=G at *;obtain⟨b,I,u⟩:=af.aM y.blk;unfold bw at b;dsimp only at b;have R:=U.1;have aq:=U.2;go_upto_region 12 with fail
  clear b I u;have L:RN (G.setCell ⟨p,9,none⟩ (.int .i64 (r.k.i+1))) X p c A n k t f (q+1) {r with k:={r.k with all:=a,i:=r.k.i+1}} s o:=RN.leaf y s o {y.tk with} y.op rfl;obtain⟨g,D⟩:=av L (((fT.refl G p).set 9 (.int .i64 (r.k.i+1))).fr f);clear L;generalize(G.setCell ⟨p,9,none⟩ (.int .i64 (r.k.i+1)))=w4 at *;have O:=ae (um.trans D);obtain⟨b,I,u⟩:=af.aM g.blk;unfold bw at b;dsimp only at b;by_cases E:r.k.i+1<c.threads
  ·go_wp2_with fail;go_quiet(fail);go_wp2_with fail;refine bodyPost_ret (v:=.tuple #[]) (by simp[results,results115,go_sem]) rfl ?_;rw[T.Y,au E];exact⟨rfl,_,_,_,g.more (bV (aj _) _),O.trans (cu.ext (bV (aj _) _) p f)⟩
  ·go_wp2_with fail;go_quiet(fail);cases a
   all_goals
    go_wp2_with fail;first
     |go_end0
     |refine bodyPost_ret (v:=.tuple #[]) (by simp[results,results115,go_sem]) rfl ?_
    rw[T.Y,ah aa];refine cE.then O ?_;exact cE.leaf g {s with se:=ek} o {g.tk with se:=dx.nil _ _ _ _,ls:=aV _} g.op rfl
 ·have C:a=(lets x r.k.word):=by rw[P.Y];rw[OT,bU (fun h=>by rw[h,beq_self_eq_true]at Q;cases Q)];rfl
  refine wp_region_held_drew (S:=(RX B p f 13 14)) (by kernel_rfl) (RX.start F.blk _ _ _) (fun hHeld=>?_);refine aP 0 hHeld ?_;refine aP 1 hHeld ?_;refine aP 2 hHeld ?_;refine aP 3 hHeld ?_;refine aP 4 hHeld ?_;(try simp only[aC]);refine et 5 (fun K d=>?_);go_simp;refine d.Y _ _ (by first|(with_reducible exact hHeld)|exact RX.below (RX.set (i:=13) (RX.same F.Y.blk _ _ _) ag _) (aj _).drew) (fun hHeld=>?_);clear d K;rw[gf l];(try simp only[aC]);refine aP 6 hHeld ?_;refine aP 7 hHeld ?_;(try simp only[aC]);refine aP 8 hHeld ?_;(try simp only[aC]);refine aP 9 hHeld ?_;(try simp only[aC]);refine aP 10 hHeld ?_;(try simp only[aC]);refine aP 11 hHeld ?_;(try simp only[aC]);refine aP 12 hHeld ?_;(try simp only[aC]);refine aP 13 hHeld ?_;(try simp only[aC]);refine aP 14 hHeld ?_;(try simp only[aC]);refine aP 15 hHeld ?_;(try simp only[aC]);refine aP 16 hHeld ?_;(try simp only[aC]);refine aP 17 hHeld ?_;(try simp only[aC]);refine aP 18 hHeld ?_;(try simp only[aC]);refine aP 19 hHeld ?_;(try simp only[aC]);refine et 20 (fun K d=>?_);go_simp;((with_reducible go_fit (qu.Y _));rintro e wB ⟨rfl,rfl⟩);go_wp2_with fail;refine d.Y _ _ (by first|(with_reducible exact hHeld)|exact RX.below (RX.set (i:=13) (RX.same F.Y.blk _ _ _) ag _) (aj _).drew) (fun hHeld=>?_);clear d K;(try simp only[aC]);refine aP 21 hHeld ?_;(try simp only[aC]);refine aP 22 hHeld ?_;refine aP 23 hHeld ?_;refine aP 24 hHeld ?_;refine aP 25 hHeld ?_;(try simp only[aC]);refine et 26 (fun K d=>?_);go_simp;refine d.Y _ _ (by first|(with_reducible exact hHeld)|exact RX.below (RX.set (i:=13) (RX.same F.Y.blk _ _ _) ag _) (aj _).drew) (fun hHeld=>?_);clear d K;(try simp only[aC]);refine wpAnyH_done (by kernel_rfl) ?_ _;clear hHeld J qQ lz jd u l Z Y V z;have M:RN (B.setCell ⟨p,13,none⟩ (.bool (lets x r.k.word))).drew X p c A n k t f (q+1) {r with k:={r.k with all:=a}} s o:=by
   apply RN.at_ (s':=s) (o':=o) j;case hA=>exact Tb
   case hK=>(with_reducible(repeat(first|apply af.bj|apply af.drewN|apply af.kv|apply af.alloc|exact j.Y.blk)))
   case he=>rw[C];rfl
   case hL=>rfl
   case tk=>exact{j.tk with}
   case op=>exact j.op
  obtain⟨y,um⟩:=av M (HF.trans ((((fT.refl B p).set 13 (.bool (lets x r.k.word))).drew).fr f));clear M C;generalize(B.setCell ⟨p,13,none⟩ (.bool (lets x r.k.word))).drew=G at *;obtain⟨b,I,u⟩:=af.aM y.blk;unfold bw at b;dsimp only at b;have R:=U.1;have aq:=U.2;go_upto_region 12 with fail
  clear b I u;have L:RN (G.setCell ⟨p,9,none⟩ (.int .i64 (r.k.i+1))) X p c A n k t f (q+1) {r with k:={r.k with all:=a,i:=r.k.i+1}} s o:=RN.leaf y s o {y.tk with} y.op rfl;obtain⟨g,D⟩:=av L (((fT.refl G p).set 9 (.int .i64 (r.k.i+1))).fr f);clear L;generalize(G.setCell ⟨p,9,none⟩ (.int .i64 (r.k.i+1)))=w4 at *;have O:=ae (um.trans D);obtain⟨b,I,u⟩:=af.aM g.blk;unfold bw at b;dsimp only at b;by_cases E:r.k.i+1<c.threads
  ·go_wp2_with fail;go_quiet(fail);go_wp2_with fail;refine bodyPost_ret (v:=.tuple #[]) (by simp[results,results115,go_sem]) rfl ?_;rw[T.Y,au E];exact⟨rfl,_,_,_,g.more (bV (aj _) _),O.trans (cu.ext (bV (aj _) _) p f)⟩
  ·go_wp2_with fail;go_quiet(fail);cases a
   all_goals
    go_wp2_with fail;first
     |go_end0
     |refine bodyPost_ret (v:=.tuple #[]) (by simp[results,results115,go_sem]) rfl ?_
    rw[T.Y,ah aa];refine cE.then O ?_;exact cE.leaf g {s with se:=ek} o {g.tk with se:=dx.nil _ _ _ _,ls:=aV _} g.op rfl
 ·have C:a=true:=by rw[P.Y];rw[OT,eq_of_beq Q,eE rfl];rfl
  refine wp_region_held_drew (S:=(RX B p f 13 14)) (by kernel_rfl) (RX.start F.blk _ _ _) (fun hHeld=>?_);refine aP 0 hHeld ?_;refine aP 1 hHeld ?_;refine aP 2 hHeld ?_;refine aP 3 hHeld ?_;refine aP 4 hHeld ?_;(try simp only[aC]);refine et 5 (fun K d=>?_);go_simp;refine d.Y _ _ (by first|(with_reducible exact hHeld)|exact RX.below (RX.set (i:=13) (RX.same F.Y.blk _ _ _) ag _) (aj _).drew) (fun hHeld=>?_);clear d K;rw[gf l];(try simp only[aC]);refine aP 6 hHeld ?_;refine aP 7 hHeld ?_;(try simp only[aC]);refine aP 8 hHeld ?_;(try simp only[aC]);refine aP 9 hHeld ?_;(try simp only[aC]);refine aP 10 hHeld ?_;(try simp only[aC]);refine aP 11 hHeld ?_;(try simp only[aC]);refine aP 12 hHeld ?_;(try simp only[aC]);refine aP 13 hHeld ?_;(try simp only[aC]);refine aP 14 hHeld ?_;(try simp only[aC]);refine aP 15 hHeld ?_;(try simp only[aC]);refine aP 16 hHeld ?_;(try simp only[aC]);refine aP 17 hHeld ?_;(try simp only[aC]);refine CK 18 hHeld ?_;(try simp only[aC]);refine CK 19 hHeld ?_;(try simp only[aC]);refine CK 20 hHeld ?_;(try simp only[aC]);refine aP 21 hHeld ?_;(try simp only[aC]);refine aP 22 hHeld ?_;refine aP 23 hHeld ?_;refine aP 24 hHeld ?_;refine aP 25 hHeld ?_;(try simp only[aC]);refine et 26 (fun K d=>?_);go_simp;refine d.Y _ _ (by first|(with_reducible exact hHeld)|exact RX.below (RX.set (i:=13) (RX.same F.Y.blk _ _ _) ag _) (aj _).drew) (fun hHeld=>?_);clear d K;(try simp only[aC]);refine wpAnyH_done (by kernel_rfl) ?_ _;clear hHeld J qQ lz jd u l Z Y V z;have M:RN (B.setCell ⟨p,13,none⟩ (.bool true)).drew X p c A n k t f (q+1) {r with k:={r.k with all:=a}} s o:=by
   apply RN.at_ (s':=s) (o':=o) j;case hA=>exact Tb
   case hK=>(with_reducible(repeat(first|apply af.bj|apply af.drewN|apply af.kv|apply af.alloc|exact j.Y.blk)))
   case he=>rw[C];rfl
   case hL=>rfl
   case tk=>exact{j.tk with}
   case op=>exact j.op
  obtain⟨y,um⟩:=av M (HF.trans ((((fT.refl B p).set 13 (.bool true)).drew).fr f));clear M C;generalize(B.setCell ⟨p,13,none⟩ (.bool true)).drew=G at *;obtain⟨b,I,u⟩:=af.aM y.blk;unfold bw at b;dsimp only at b;have R:=U.1;have aq:=U.2;go_upto_region 12 with fail
  clear b I u;have L:RN (G.setCell ⟨p,9,none⟩ (.int .i64 (r.k.i+1))) X p c A n k t f (q+1) {r with k:={r.k with all:=a,i:=r.k.i+1}} s o:=RN.leaf y s o {y.tk with} y.op rfl;obtain⟨g,D⟩:=av L (((fT.refl G p).set 9 (.int .i64 (r.k.i+1))).fr f);clear L;generalize(G.setCell ⟨p,9,none⟩ (.int .i64 (r.k.i+1)))=w4 at *;have O:=ae (um.trans D);obtain⟨b,I,u⟩:=af.aM g.blk;unfold bw at b;dsimp only at b;by_cases E:r.k.i+1<c.threads
  ·go_wp2_with fail;go_quiet(fail);go_wp2_with fail;refine bodyPost_ret (v:=.tuple #[]) (by simp[results,results115,go_sem]) rfl ?_;rw[T.Y,au E];exact⟨rfl,_,_,_,g.more (bV (aj _) _),O.trans (cu.ext (bV (aj _) _) p f)⟩
  ·go_wp2_with fail;go_quiet(fail);cases a
   all_goals
    go_wp2_with fail;first
     |go_end0
     |refine bodyPost_ret (v:=.tuple #[]) (by simp[results,results115,go_sem]) rfl ?_
    rw[T.Y,ah aa];refine cE.then O ?_;exact cE.leaf g {s with se:=ek} o {g.tk with se:=dx.nil _ _ _ _,ls:=aV _} g.op rfl
theorem CQ(H:RN w X p c A n k t m q r s o)(d:RB c N r)(e:N<=90000)(f:q<=900000)(g:24<=r.k.pc)(j:r.k.pc<=27):Calls prog 115 #[.pointer (some ⟨p,0,none⟩)] w (cE X p c A n k t m (q+1) (Rn.cV c t r) w):=by
 rcases(by omega:r.k.pc=24\/r.k.pc=25\/r.k.pc=26\/r.k.pc=27)with h|h|h|h
 ·exact IV H d e f h
 ·exact IY H d e f h
 ·exact IW H d e f h
 ·exact IX H d e f h
end
theorem Ni(w:World)(g:Nat)(a:Addr)(n c:Nat)(d:w.cell? ⟨g,0,none⟩=some (.slice (some a) n c)):Calls prog 107 #[.pointer g] w fun e w'=>e=.returned n/\w=w':=by have b:=ae (qc w g a n c d);go_enter func107,ntmps107;go_wp2_with fail;refine b.mono ?_;exact TA
structure StP (w:World) (X:Nat->Prop) (c:Mo.bA) (A:Option Addr) (n:Nat) (t:Int) (m:Mm) (q:Nat) (L:List Int) (x:Mo.Tk) (s:Sh):Prop where
 mem:ze w m L q
 ln:(L.length:Int)=Mo.bB c
 cs:CfS c n t
 mx:∀b,m.own b->¬X b
 xl:∀b,X b->b<w.heap.size
 cf:dx w (Iz w X m) .i64 A c.start
 tk:nU w (Iz w X m) x s
def YI(X:Nat->Prop)(c:bA)(m:Mm)(q:Nat)(r:Rn)(w:World)(e:Ending)(d:World):Prop :=∃p a f b,w.heap.size<=p/\e=.returned (.tuple #[.agg (iK r.k f).toArray,.agg #[r.note,r.fR,.slice (Sl.A b) r.ops.length (Sl.c b)]])/\ze d a r.L q/\(r.L.length:Int)=bB c/\nU d (Im d X p a) r.k f/\ru d (Im d X p a) b.A r.ops/\cu w d p m a
namespace Mo
section
variable(c:bA) (t:Int) (r:Rn)
theorem Fb(d:0<r.k.pc)(h:r.k.pc<=5):eD c t r=Rn.enter c t r:=by exact Tj
theorem CR(d:0<r.k.pc)(h:5<r.k.pc/\r.k.pc<=7):eD c t r=Rn.eZ c t r:=by exact Tj
theorem CS(d:0<r.k.pc)(h:7<r.k.pc/\r.k.pc<=10):eD c t r=Rn.fc c r:=by exact Tj
theorem Am(d:0<r.k.pc)(h:10<r.k.pc/\r.k.pc<=12):eD c t r=Rn.eV c t r:=by exact Tj
theorem CT(d:0<r.k.pc)(h:12<r.k.pc/\r.k.pc<=15):eD c t r=Rn.writes c t r:=by exact Tj
theorem zn(d:0<r.k.pc)(h:15<r.k.pc/\r.k.pc<=19):eD c t r=Rn.bT c t r:=by exact Tj
theorem IZ(d:0<r.k.pc)(h:19<r.k.pc/\r.k.pc<=23):eD c t r=Rn.ends c t r:=by exact Tj
theorem Ao(d:0<r.k.pc)(h:23<r.k.pc/\r.k.pc<=27):eD c t r=Rn.cV c t r:=by exact Tj
theorem Fc(d:0<r.k.pc)(h:r.k.pc=28):eD c t r=Rn.leave c t r:=by exact Tj
theorem Fe(d:0<r.k.pc)(h:28<r.k.pc):eD c t r=Rn.waits c t r:=by exact Tj
end
end Mo
section
variable{w:World} {X:Nat->Prop} {c:Mo.bA} {A:Option Addr} {n k:Nat} {t:Int} {m:Mm} {q:Nat} {L:List Int} {x:Mo.Tk} {s:Sh} {N:Int}
theorem StP.rn(h:StP w X c A n t m q L x s)(d:Below w w w')(j:w.heap.size<=p)(f:af w' p 176 (bw c A n k m.g t ⟨x,L,0,false,[]⟩ s ek)):RN w' (XB X w p) p c A n k t m q ⟨x,L,0,false,[]⟩ s ek :=
 have i:Sm (Iz w X m) w w':=fun b a=>d.block b a.1
 have g:∀b,Iz w X m b->Im w' (XB X w p) p m b:=fun b a=>⟨bL a.1 d.size,fun e=>by have:=a.1;omega,a.2.1,fun e=>e.elim a.2.2 fun e=>by have:=a.1;omega⟩
 ⟨f,h.mem.more d,h.ln,h.cs,fun a=>by have:=h.mem.lt a;omega,fun b a e=>e.elim (h.mx b a) fun e=>by have:=h.mem.lt a;omega,fun b a=>a.elim (fun a=>bL (h.xl b a) d.size) fun a=>Nat.lt_trans a.2 f.lt,(h.cf.same i).mono g,h.tk.move i g,ru.nil _ _ _⟩
theorem YI.fin{k:Nat}{f u:World}{l:Mm}{r:Rn}{G:Sh}{C:Sl}{e:Ending}(H:RN f (XB X w p) p c A n k t l q r G C)(F:cu w f p m l)(K:w.heap.size<=p)(D:∀b,¬(w.heap.size<=b/\b<p)->u.heap[b]?=f.heap[b]?)(I:Below 0 f u)(J:e=.returned (.tuple #[.agg (iK r.k G).toArray,.agg #[r.note,r.fR,.slice C.A r.ops.length C.c]])):YI X c m q r w e u :=
 have d:Sm (Im f (XB X w p) p l) f u:=fun b h=>D b fun e=>h.2.2.2 (.inr e)
 have a:∀b,Im f (XB X w p) p l b->Im u X p l b:=fun b h=>⟨bL h.1 I.size,h.2.1,h.2.2.1,fun e=>h.2.2.2 (.inl e)⟩
 ⟨p,l,G,C,K,J,H.mem.same fun b h=>D b fun e=>H.mx b h (.inr e),H.ln,H.tk.move d a,H.op.move d a,F.jH.trans I,fun b g i j=>(D b aa).trans (F.same b g i j),F.own,F.g⟩
def Tl(a:Nat)(X:Nat->Prop)(c:bA)(A:Option Addr)(n k:Nat)(t:Int)(m:Mm)(q:Nat)(x:Tk)(L:List Int)(s:Sh)(f:FuncId):Prop :=∀b p,RN b (XB X a p) p c A n k t m q ⟨x,L,0,false,[]⟩ s ek->Calls prog f #[.pointer p] b (cE (XB X a p) p c A n k t m (q+1) (eD c t ⟨x,L,0,false,[]⟩) b)
theorem Nj(H:StP w X c A n t m q L x s)(u:RB c N ⟨x,L,0,false,[]⟩)(hF:FB c x)(hown:12<x.pc->x.pc<=15->0<=x.aA.own.ix/\x.aA.own.ix<cN c)(hN:N<=90000)(F:q<=900000)(B:0<x.pc):Calls prog 74 #[zF c A n k,.pointer (some ⟨m.g,0,none⟩),t,.agg (iK x s).toArray] w (YI X c m (q+1) (eD c t ⟨x,L,0,false,[]⟩) w):=by
 have ui:=H.cs.t0;have vK:=H.cs.t1;have Js:c.bG<=1048575:=(Mo.aK H.cs.eN).2.2.2.2.2.1.2;have I:N<=100000:=aa;have b6:L≠[]:=fun e=>by have h:=H.ln;have h2:=(dO H.cs.eN ui vK).1;rw[e]at h;simp at h;omega
 have HI:7<x.pc/\x.pc<=12->x.i<c.threads/\(x.buf.length:Int)=bn c:=by intro h;have h2:=u.f.a;unfold mM at h2;dsimp only at h2;omega
 obtain⟨gl,cl,cd,cn,ct⟩:=H.mem.mv.form b6;have a7:∀a,Below w w a->a.cell? ⟨m.g,0,none⟩=some (.slice gl L.length cl):=fun a z=>by rw[(H.mem.more z).mv.blk.cell 0,cd];rfl
 obtain⟨zD,Da⟩:=av (fun a z=>Ni a m.g ⟨gl,0,none⟩ L.length cl (a7 a z)) (fun a (z:Below w w a)=>ve a H.cs.eN H.cs.n (H.cf.1.below z) (k:=k));rw[<-H.ln]at Da;obtain⟨ln,xu⟩:=aG L.length;rw[<-xu]at zD Da;obtain⟨xb,qu⟩:=av (fun a (p:Nat) (z:Below w w a) (hp:w.heap.size<=p)=>H.rn (k:=k) z hp) (fun b=>H.mem.lt (b:=b));obtain⟨E,f⟩:=aG ((((w.alloc (dV c A n k)).alloc (.cells (iK x s).toArray 50)).alloc (.cells zT.toArray 50)).alloc (.cells #[oZ,false,oN] 142));have gC:Hid (Below w w E):=by rw[f];exact ak (ak (ak (ak (aj w) _) _) _) _
 have jc:Hid (af E w 24 #[c.kind,c.threads,c.chans,c.cap,c.nodes,c.aL,c.aF,c.tags,c.bG,c.bt,.slice A n k]):=by rw[f];exact(((af.new _ _ _).alloc _).alloc _).alloc _
 have fY:Hid (af E (w.heap.size+1) 50 (iK x s).toArray):=by rw[f];exact((af.newAt _ _ _ aD).alloc _).alloc _
 have ko:Hid (af E (w.heap.size+1+1) 50 zT.toArray):=by rw[f];exact(af.newAt _ _ _ aD).alloc _
 have ub:Hid (af E (w.heap.size+1+1+1) 142 #[oZ,false,oN]):=by rw[f];exact af.newAt _ _ _ aD
 have cv:Hid (E.heap.size=w.heap.size+1+1+1+1):=by unfold Hid;rw[f];simp
 unfold zT at f;obtain⟨T,hT⟩:=aG ((iK x s).toArray);rw[<-hT]at f fY;rw[<-hT];have Y:=ae hT;clear hT;unfold zF;have S0:=ae f;clear f H;go_enter func74,ntmps74;go_wp2_with fail;rw[<-S0.Y];clear S0;obtain⟨Mt,Z⟩:=av (fun a (l:Ext E a)=>zD a (ai gC l.Y)) (fun a (l:Ext E a)=>Da a (ai gC l.Y));have U:=fun a (l:Ext E a) i=>af.cell (jc.ai l.Y) i;have QD:∀a,Ext E a->a.cell? ⟨w.heap.size+1,0,none⟩=some (.int .i64 x.pc):=fun a l=>by rw[af.cell (fY.Y.ai l.Y) 0,Y.Y];rfl
 have bz:(x.pc==0)=false:=by rw[di];omega
 have bR:decide (t<0)=false:=bU aa;have bY:decide (c.threads<=t)=false:=bU aa;clear a7 zD Da;go_region_held3(Ext E) (with_reducible(repeat(first|assumption|exact Ext.start _|refine Ext.alloc ?_ _))) (first
  |((with_reducible go_fit (Mt.Y _ bc));rintro e wA ⟨rfl,rfl⟩)
  |((with_reducible go_fit (Z.Y _ bc));rintro e wB ⟨rfl,eF⟩;have V:=Ext.to bc eF))
 obtain⟨je,M6,zH,O,rK⟩:=dh (ai gC V.Y) (jc.ai V.Y) (fY.ai V.Y) (ko.ai V.Y) (ub.ai V.Y);clear U QD bz bR bY V eF Mt Z jc fY ko ub gC;have U:=fun i=>af.cell M6 i;have QD:wB.cell? ⟨w.heap.size+1,0,none⟩=some (.int .i64 x.pc):=by rw[af.cell zH.Y 0,Y.Y];rfl
 have jM:=M6.lt;have xd:=zH.lt;have cF:=O.lt;have cC:=rK.lt;go_upto_region 3 with fail
 refine wp_region_lit ?_;refine wpList_load_mid rfl 50 _ rfl (w.heap.size+1) 0 rfl T.toList _ (fun j v G=>by rw[Nat.zero_add,af.cell zH.Y j];simpa using G) underlying50 rfl (by rw[Y.Y];rfl) ?_;rw[Array.toArray_toList];refine wpList_load_mid rfl 24 _ rfl w 0 rfl [c.kind,c.threads,c.chans,c.cap,c.nodes,c.aL,c.aF,c.tags,c.bG,c.bt,.slice A n k] _ (fun j v G=>by rw[Nat.zero_add,af.cell M6.Y j];simpa using G) underlying24 rfl (by kernel_rfl) ?_;refine fw rfl (.pointer (some ⟨m.g,0,none⟩)) rfl ?_;refine fw rfl t rfl ?_;obtain⟨R,hR⟩:=aG (bw c A n k m.g t ⟨x,L,0,false,[]⟩ s ek);refine fw rfl (.agg R) (by rw[hR,Y.Y];kernel_rfl) ?_;have zC:=ae hR;clear hR;go_upto_region 5 with fail
 obtain⟨jV,QL,aq,JY,xe,HP⟩:=cT (xb _ wB (ak je (.cells R 176)) je.size (by rw[<-zC.Y];exact af.new _ _ _)) (zH.alloc (.cells R 176)) (O.alloc (.cells R 176)) (rK.alloc (.cells R 176)) (ak je (.cells R 176)) je.size;clear U jM xb zC je zH M6 O rK;generalize wB.alloc (.cells R 176)=w5 at *;generalize wB.heap.size=p at *;have QD:w5.cell? ⟨w.heap.size+1,0,none⟩=some (.int .i64 x.pc):=by rw[af.cell QL.Y 0,Y.Y];rfl
 have b5:x.pc<=5\/(5<x.pc/\x.pc<=7)\/(7<x.pc/\x.pc<=10)\/(10<x.pc/\x.pc<=12)\/(12<x.pc/\x.pc<=15)\/(15<x.pc/\x.pc<=19)\/(19<x.pc/\x.pc<=23)\/(23<x.pc/\x.pc<=27)\/x.pc=28\/28<x.pc:=aa;rcases b5 with h|h|h|h|h|h|h|h|h|h
 case' inl =>
  have C:Hid (Tl w X c A n k t m q x L s 108):=fun a p g=>by
   rw[Fb c t _ B h]
   exact IC g u I F B h
 case' inr.inl =>
  have C:Hid (Tl w X c A n k t m q x L s 109):=fun a p g=>by
   rw[CR c t _ B h]
   exact EP g u I F h.1 h.2
 case' inr.inr.inl =>
  have C:Hid (Tl w X c A n k t m q x L s 110):=fun a p g=>by
   rw[CS c t _ B h]
   exact EZ g u hF I F h.1 h.2
 case' inr.inr.inr.inl =>
  have C:Hid (Tl w X c A n k t m q x L s 111):=fun a p g=>by
   rw[Am c t _ B h]
   exact CP g u (fun wy my qy sy r' hR e1 e2 e3 e4 _=>Al hR (by rw[e4];exact u.k.i.1) (by rw[e4];exact(HI ⟨aa,h.2⟩).1) (by rw[e1];exact hF.b (by show x.pc=11\/x.pc=12;omega)) (by rw[e1];exact hF.cs) (by rw[e2];exact(HI ⟨aa,h.2⟩).2) (by rw[e2];exact u.k.buf) (by rw[e3];exact mQ (u.f.aN (by show x.pc≠0;omega)))) I F h.1 h.2
 case' inr.inr.inr.inr.inl =>
  have C:Hid (Tl w X c A n k t m q x L s 112):=fun a p g=>by
   rw[CT c t _ B h]
   exact EX g u (hown h.1 h.2) I F h.1 h.2
 case' inr.inr.inr.inr.inr.inl =>
  have C:Hid (Tl w X c A n k t m q x L s 113):=fun a p g=>by
   rw[zn c t _ B h]
   exact Aj g u Js F h.1 h.2
 case' inr.inr.inr.inr.inr.inr.inl =>
  have C:Hid (Tl w X c A n k t m q x L s 114):=fun a p g=>by
   rw[IZ c t _ B h]
   exact MW g u I F h.1 h.2
 case' inr.inr.inr.inr.inr.inr.inr.inl =>
  have C:Hid (Tl w X c A n k t m q x L s 115):=fun a p g=>by
   rw[Ao c t _ B h]
   exact CQ g u hN F h.1 h.2
 case' inr.inr.inr.inr.inr.inr.inr.inr.inl =>
  have C:Hid (Tl w X c A n k t m q x L s 116):=fun a p g=>by
   rw[Fc c t _ B h]
   exact ID g F
 case' inr.inr.inr.inr.inr.inr.inr.inr.inr =>
  have C:Hid (Tl w X c A n k t m q x L s 117):=fun a p g=>by
   rw[Fe c t _ B h]
   exact IF g u I F h
 all_goals
  clear hF hown hN F HI I Js u B;go_wp2_with fail;go_fit (C _ _ jV);rintro e r ⟨rfl,m6,s6,o,H6,F6⟩;clear C;generalize eD c t ⟨x,L,0,false,[]⟩=d at *;have Q:Hid (af r (w.heap.size+1+1) 50 zT.toArray):=(F6.same _ aq.lt aa (fun z=>by have:=qu.Y _ z;omega)).trans aq;have LZ:Hid (af r (w.heap.size+1+1+1) 142 #[oZ,false,oN]):=(F6.same _ JY.lt aa (fun z=>by have:=qu.Y _ z;omega)).trans JY;obtain⟨xH,W⟩:=av ((cu.ext xe p m).trans F6) H6;obtain⟨y,X4⟩:=aG (iK d.k s6);have aW:=H6.lt;have D:Hid (y.length=34):=by unfold Hid;rw[X4];rfl
  have S6:=ae X4;clear F6 H6 X4 jV QL JY xe QD;go_wp2_with fail;have hs:∀a:World,a.heap[p]?=r.heap[p]?->a.rangeAt p 0 y:=fun a l=>af.range (show af a p 176 _ from l.trans W.blk) y (fun j v G=>by
   rw[Rw, <-S6.Y,List.getElem?_toArray]
   exact List.getElem?_append_left (List.getElem?_eq_some_iff.1 G).1▸G)
  have cw:∀a:World,a.heap[p]?=r.heap[p]?->a.cell? ⟨p,47,none⟩=some (.int .i64 d.note):=fun a l=>af.cell (show af a p 176 _ from l.trans W.blk) 47;have cy:∀a:World,a.heap[p]?=r.heap[p]?->a.cell? ⟨p,48,none⟩=some (.bool d.fR):=fun a l=>af.cell (show af a p 176 _ from l.trans W.blk) 48;have cz:∀a:World,a.heap[p]?=r.heap[p]?->a.cell? ⟨p,49,none⟩=some (.slice o.A d.ops.length o.c):=fun a l=>af.cell (show af a p 176 _ from l.trans W.blk) 49;refine wp_region_held_drew (S:=fun a:World=>a.heap[p]?=r.heap[p]?) (by kernel_rfl) rfl (fun hHeld=>?_);refine aP 0 hHeld ?_;refine aP 1 hHeld ?_;refine aP 2 hHeld ?_;refine tkH (i:=3) (oi:=⟨some 102,_,_,_,_,_⟩) rfl (by kernel_rfl) rfl (fun _ _ _ h=>h) hHeld (fun a l=>r4 50 _ rfl p 0 rfl y _ (hs a l) underlying50 rfl (by rw[D.Y];rfl)) ?_;refine aP 4 hHeld ?_;refine aP 5 hHeld ?_;refine aP 6 hHeld ?_;refine aP 7 hHeld ?_;(try simp only[aC]);refine et 8 (fun K hK=>?_);rw[au (by rfl)];refine wp_store_mid 50 _ _ rfl (w.heap.size+1+1) 0 y.toArray rfl rfl (af.there (af.kv Q) 0 _ (by rw[jG,D.Y];decide)) (by rw[jG,D.Y];rfl) (by rw[S6.Y];exact eK _ _) ?_;rw[jm];refine hK.Y _ _ (aO aa y 0) (fun hHeld=>?_);clear hK K;(try simp only[aC]);obtain⟨a6,J⟩:=av (aQ (vs:=y) (cs:=zT) (af.kv Q) (by rw[D.Y];rfl)) (ba (af.kv LZ) (show w.heap.size+1+1+1≠w.heap.size+1+1 by omega) y 0);have M:Hid (∀b,¬(w.heap.size<=b/\b<p)->(aw r.drew (w.heap.size+1+1) 0 y).heap[b]?=r.heap[b]?):=fun b z=>aO aa y 0;have S4:Hid (Below 0 r (aw r.drew (w.heap.size+1+1) 0 y)):=ax (aV _) _ _ _ ((aj r).drew.mono (aV _));clear LZ Q;generalize aw r.drew (w.heap.size+1+1) 0 y=w8 at *;obtain⟨NV,Yo,a8⟩:=af.aM J;refine et 9 (fun K hK=>?_);go_simp;refine hK.Y _ _ (by
   refine(dp _ _ _ _ ?_).trans ((dp _ _ _ _ ?_).trans ((dp _ _ _ _ ?_).trans (M p aa)))<;>(show p≠w.heap.size+1+1+1;omega)) (fun hHeld=>?_)
  clear hK K;(try simp only[aC]);refine wpAnyH_done (by kernel_rfl) ?_ _;clear hHeld;go_wp2_with fail;have bg:=aQ (vs:=[d.note,d.fR,.slice o.A d.ops.length o.c]) (cs:=[oZ,false,oN]) J rfl;have bo:=ba a6 (show w.heap.size+1+1≠w.heap.size+1+1+1 by omega) [d.note,d.fR,.slice o.A d.ops.length o.c] 0;have b8:∀b,¬(w.heap.size<=b/\b<p)->(aw w8 (w.heap.size+1+1+1) 0 [d.note,d.fR,.slice o.A d.ops.length o.c]).heap[b]?=r.heap[b]?:=fun b z=>(aO aa _ 0).trans (M b z);have Ad:Below 0 r (aw w8 (w.heap.size+1+1+1) 0 [d.note,d.fR,.slice o.A d.ops.length o.c]):=ax (aV _) _ _ _ S4;change bodyPost _ _ _ _ _ (aw w8 (w.heap.size+1+1+1) 0 [d.note,d.fR,.slice o.A d.ops.length o.c]);clear NV Yo a8 M S4 J a6;generalize aw w8 (w.heap.size+1+1+1) 0 [d.note,d.fR,.slice o.A d.ops.length o.c]=w9 at *;have jU:=run_loadVar_mid (P:=prog) w9 (w.heap.size+1+1) 0 50 y _ (af.range bo y (fun j v G=>by rw[List.getElem?_toArray];exact G)) underlying50 rfl (by rw[D.Y];rfl);have b7:=run_loadVar_mid (P:=prog) w9 (w.heap.size+1+1+1) 0 142 [d.note,d.fR,.slice o.A d.ops.length o.c] _ (af.range bg _ (fun j v G=>by rw[List.getElem?_toArray];exact G)) underlying142 rfl (by kernel_rfl);exact bodyPost_ret (E2 results74 rfl rfl jU b7) rfl (YI.fin W xH HP b8 Ad (by rw[<-S6.Y]))
end
end Go.Proofs.YtjcjjiieblineaaGreat
