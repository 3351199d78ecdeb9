/- Walks and plain facts. No condition. -/
import Derived.Test.YtjcjjiieblineaaGreatPA
namespace Go.Proofs.YtjcjjiieblineaaGreat
open Go.RowKit Go.Proofs.Tryz Mo
set_option maxHeartbeats 8000000
set_option maxRecDepth 100000
set_option linter.all false
variable {w':World}{m t sn gg b0 ge gz:Nat}{v:Value}{l vs:List Int}{cs:Array Value}{pc:Int}
def adE(w:World)(n:Nat)(e f:Value)(a:World):Prop:=∃g H d k,∃A:Option Addr,e=.pointer (some ⟨g,0,none⟩)/\f=.slice H n d/\n<=d/\af a g 24 #[(cg n).kind,(cg n).threads,(cg n).chans,(cg n).cap,(cg n).nodes,(cg n).aL,(cg n).aF,(cg n).tags,(cg n).bG,(cg n).bt,.slice A (1+n) k]/\bJ a .i64 A (cg n).start/\bJ a .i64 H (kB n)/\(∀b,H=some b->w.heap.size<=b.block/\b.block<a.heap.size)/\Below w w a
section
variable{w w':World} {base:Nat} {e:TypeId} {k:IntKind} {v v' u:Value} {xs:List Int}
theorem CX(h:aJ w base e k u xs)(j:∀b,v.ownBlock=some b->u.ownBlock≠some b)(q:w.grownBy w' v.ownBlock)(f:v'.ownBlock=v.ownBlock\/v'.ownBlock=some w.heap.size):aJ w' base e k u xs/\∀b,v'.ownBlock=some b->u.ownBlock≠some b:=by
 have c:∀b,u.ownBlock=some b->b<w.heap.size:=fun b a=>(aX h a).2;refine⟨cJ h fun b a=>q.block b (c b a) fun e=>j b e.symm a,fun b a d=>?_⟩;rcases f with f|f
 ·exact j b (f▸a) d
 ·have:=c b d;rw[f]at a;injection a with a
  omega
theorem CY{g:Nat}{t:TypeId}(h:af w g t cs)(b:v.ownBlock≠some g)(f:w.grownBy w' v.ownBlock)(a:v'.ownBlock=v.ownBlock\/v'.ownBlock=some w.heap.size):af w' g t cs/\v'.ownBlock≠some g:=⟨h.grown f fun e=>b e.symm,fun e=>a.elim (fun a=>b (a▸e)) fun a=>by have:=h.lt;rw[a]at e;injection e;omega⟩
end
section
variable{w wr:World} {x0:Nat} {A:Option Addr} {k N i n q:Nat} {x:Mo.Mc} {s:Sx}
theorem Sy(a:n=1\/n=2):aU (cg n)=true/\(cg n).threads<=4/\bB (cg n)<=1048576/\1+n=(cg n).start.length/\(iA (cg n)).L≠[]:=by
 rcases a with rfl|rfl
 ·exact⟨by decide+kernel,by decide,by decide+kernel,rfl,by decide+kernel⟩
 ·exact⟨by decide+kernel,by decide,by decide+kernel,rfl,by decide+kernel⟩
def I5(v:Int):Int:=IntKind.u64.wrap v%1000
def TeN(n:Nat)(vs:List Int)(N:Nat):Prop:=N<2950/\(∀i,i<N->(iJ n vs i).ended.all id=false)/\(iJ n vs N).ended=List.replicate n true/\(iJ n vs N).got=List.replicate n vs/\0<((iJ n vs N).x.V.map fun v=>v.ops.length).sum/\((iJ n vs N).x.V.map fun v=>v.ops.length).sum<=1000000
theorem Ks(a:n=1\/n=2):(kB n).length=n:=by rcases a with rfl|rfl<;>rfl
theorem Nm:(prog.info? 22).map (fun i=>(i.zero,i.size,i.bytes))=some (some (.slice none 0 0),1,24):=by kernel_rfl
theorem Np:(prog.info? 4).map (fun i=>(i.zero,i.size,i.bytes))=some (some (.bool false),1,1):=by kernel_rfl
theorem Ku(a:n=1\/n=2):sM (iA (cg n)) ⟨3,1,nN,8,kB n⟩=((stR n).x,0):=by
 have h:(iZ (iA (cg n)) 1 8 (kB n)).2=0:=by rcases a with rfl|rfl<;>decide+kernel
 have b:¬(((iA (cg n)).T.length:Int)<=1):=by rcases a with rfl|rfl<;>decide+kernel
 unfold sM;rw[ah (fun e=>e.elim (fun h:(1:Int)<0=>absurd h (by decide)) b),ah (fun h:(3:Int)=1=>absurd h (by decide)),ah (fun h:(3:Int)=2=>absurd h (by decide)),au rfl];exact Prod.ext rfl h
attribute [local instance] NZ in
theorem ae5(hn:n=1\/n=2):(Mo.stR n).x.c=Mo.cg n:=(congrArg (fun p=>p.1.c) (Ku hn)).symm.trans (Sf _)
theorem zw(h:List Int)(s:Pr):∀i,(qg h s i).ended.length=s.ended.length/\(qg h s i).got.length=s.got.length
 |0=>⟨rfl,rfl⟩
 |i+1=>by
  have:=zw h s i
  unfold qg Nx
  split
  ·exact this
  ·dsimp only;have g:∀{c:Prop} [Decidable c] {a b:List (List Int)} {l:Nat},a.length=l->b.length=l->(if c then a else b).length=l:=fun d e=>by split<;>assumption
   exact⟨by rw[cq];exact this.1,g (by rw[cq];exact this.2) this.2⟩
theorem pC(vs:List Int)(s:Pr):(mO vs s).ended=s.ended/\(mO vs s).got=s.got:=by unfold mO;split<;>exact⟨rfl,rfl⟩
theorem Kv{x:Mc}(q:Rq)(h:t<x.T.length):sM x ⟨2,t,q,0,[]⟩=iB x t q:=by unfold sM;rw[ah (fun e=>e.elim (fun h:(t:Int)<0=>by omega) (fun h:(x.T.length:Int)<=t=>by omega)),ah (fun h:(2:Int)=1=>absurd h (by decide)),au rfl];rfl
theorem CZ{x:Mc}(h:t<x.T.length):sM x ⟨1,t,nN,0,[]⟩=(iO x t,0):=by unfold sM;rw[ah (fun e=>e.elim (fun h:(t:Int)<0=>by omega) (fun h:(x.T.length:Int)<=t=>by omega)),au rfl];rfl
theorem sZ.jH{w wr:World}{a:Nat}{A:Option Addr}{k n i:Nat}{s:Pr}(H:sZ w a A k n gg ge i s wr):Below w w wr:=H.2.elim fun _ h=>h.1.1
theorem Sz{s:Pr}(a:pc=(bm s.x 0).pc)(b:sn=s.jN)(e:vs.length=m)(h:¬(pc=0/\sn<=m)):mO vs s=s:=by subst a b e;unfold mO;exact ah h
theorem SA(v:Int):wrap64 ((IntKind.u64.wrap v).tmod 1000)=I5 v:=by
 have h:0<=IntKind.u64.wrap v:=by rw[iW];omega
 unfold I5;rw[Int.tmod_eq_emod_of_nonneg h];unfold wrap64;omega
theorem WB{vals:List Int}{v:Int}(h:vs=vals.map I5)(a:vals[sn]?=some v):GA vs sn=jB 1 8 (I5 v):=by subst h;unfold GA;rw[au (by rw[cW];exact(List.getElem?_eq_some_iff.1 a).1),cZ,List.getElem?_map,a];rfl
theorem WD(h:vs.length<=sn):GA vs sn=⟨4,8,0,false,[]⟩:=ah (by omega)
def te1(h:List Int)(s:Pr)(k:Nat):Mc:=if(bm s.x (2+k)).pc=0 then(iB s.x (2+k) (jB 2 (h.getD k 0) 0)).1 else s.x
theorem WE{h:List Int}{s:Pr}{k:Nat}(a:s.ended[k]?=some true):Nx h s k=s:=by unfold Nx;exact au (by rw[cZ,a];rfl)
theorem aa2{h:List Int}{s:Pr}{k:Nat}(a:s.ended[k]?=some false){x:Mc}(b:x=iO (te1 h s k) (2+k)){y:Tk}(e:y=bm x (2+k)):Nx h s k=⟨x,s.jN,if y.pc=0/\y.res.code=0 then s.got.set k (s.got.getD k []++[y.res.value])else s.got,s.ended.set k (y.pc==0 && y.res.code==9)⟩:=by subst b e;unfold Nx;rw[ah (by rw[cZ,a];decide)];rfl
theorem aa3{h:List Int}{s:Pr}{k:Nat}(a:pc=(bm s.x (2+k)).pc)(b:¬pc=0):te1 h s k=s.x:=ah (a▸b)
theorem WG{h:List Int}{s:Pr}{k:Nat}{v:Int}(b:pc=(bm s.x (2+k)).pc)(f:pc=0)(e:h[k]?=some v)(a:2+k<s.x.T.length):te1 h s k=(sM s.x ⟨2,(2+k:Nat),jB 2 v 0,0,[]⟩).1:=by unfold te1;rw[au (b▸f),Kv _ a,cZ,e];rfl
theorem Nq{s:Pr}(a:pc=(bm s.x 0).pc)(b:sn=s.jN)(e:vs.length=m)(h:pc=0/\sn<=m)(f:0<s.x.T.length):mO vs s={s with x:=(sM s.x ⟨2,(0:Nat),GA vs sn,0,[]⟩).1,jN:=sn+1}:=by subst a b e;rw[Kv _ f];unfold mO;exact au h
attribute [local instance] NZ in
theorem CW.kept{w:World}{j:Nat}{rows:List Value}{got:List (List Int)}{ended:List Bool}(H:CW w b0 gg ge rows got ended)(hv:rows[j]?=some v)(hg:w.grownBy w' v.ownBlock):af w' gg 22 rows.toArray:=H.gb.grown hg fun e=>(H.bO hv e.symm).2.1 rfl
attribute [local instance] NZ in
theorem aa4{w:World}(ho:aJ w b0 3 .i64 v l)(hb:Below w w w'):aJ w' b0 3 .i64 v l:=cJ ho fun b h=>hb.block b (aX ho h).2
attribute [local instance] NZ in
theorem YR{w:World}{ds:Array Value}(hz:af w gz 50 cs)(hg:af w gg 22 ds):gz≠gg:=eB hz hg (by decide)
attribute [local instance] NZ in
theorem SB{w:World}(ho:aJ w b0 3 .i64 v l)(hz:af w gz 50 cs)(hg:w.grownBy w' v.ownBlock):af w' gz 50 cs :=
 hz.grown hg fun e=>by
  obtain⟨ys,fr,h1⟩:=eh ho gz e.symm
  exact eB h1 hz (by decide) rfl
theorem BC(h:List Int)(s:Pr):∀i,(qg h s i).jN=s.jN
 |0=>rfl
 |i+1=>by
  have:=BC h s i
  unfold qg Nx
  split<;>exact this
theorem SC{w wr:World}{j:Nat}{A:Option Addr}{k N i:Nat}{O:Nat->Prop}{x:Mc}(H:Dh w j A k N O i x wr)(u:i<=25000):Calls prog 12 #[.pointer (some ⟨j,0,none⟩)] wr fun e w'=>∃B d,∃S:Nat->Prop,e=.returned (.slice B x.V.length d)/\(∀b,S b->b<w'.heap.size)/\kF 3 Wd w' S B x.V/\Below wr wr w':=by
 letI:OW:=⟨O⟩
 obtain⟨m,a,n,q,s,p,g,r⟩:=H;refine(E6 g rfl (by have:=a.B.V;omega) (fun y f=>⟨bq (a.C.V y f).1 (by decide),fun o c=>bq ((a.C.V y f).2 o c) (by decide)⟩)).mono ?_;rintro e w' ⟨B,d,rfl,c,l⟩;exact⟨B,d,_,rfl,fun b h=>h.2.1,c.Ma,l⟩
def GB(B:Nat)(s:Pr):Prop:=∀l∈s.got,l.length<=B
theorem aa5{B:Nat}{h:List Int}{s:Pr}(f:GB B s)(i:Nat):GB (B+1) (Nx h s i):=by
 have e:GB (B+1) s:=fun l d=>Nat.le_succ_of_le (f l d);unfold Nx;split
 ·exact e
 ·have g:∀{c:Prop} [Decidable c] {a b:List (List Int)},(∀l∈a,l.length<=B+1)->(∀l∈b,l.length<=B+1)->∀l∈(if c then a else b),l.length<=B+1:=fun k m=>by split<;>assumption
  refine g (fun l d=>?_) e;rcases List.mem_or_eq_of_mem_set d with d|rfl
  ·exact e l d
  ·rw[eW,gL,cZ];cases j:s.got[i]? with
   |none=>exact Nat.succ_le_succ (aV _)
   |some u=>exact Nat.succ_le_succ (f u (dB j))
theorem C0{B:Nat}{h:List Int}{s:Pr}(a:GB B s):∀i,GB (B+i) (qg h s i)
 |0=>a
 |i+1=>aa5 (C0 a i) i
theorem Kw{n:Nat}(vs:List Int):∀j,GB (n*j) (iJ n vs j)
 |0=>fun l a=>by rw[List.eq_of_mem_replicate a];exact aV _
 |j+1=>by
  have b:GB (n*j) (mO vs (iJ n vs j)):=fun l a=>Kw vs j l ((pC vs (iJ n vs j)).2▸a)
  exact C0 b n
theorem zx(vs:List Int):∀j,(iJ n vs j).ended.length=n/\(iJ n vs j).got.length=n
 |0=>⟨gp,gp⟩
 |j+1=>by
  have h:=zx vs j
  have a:=zw (kB n) (mO vs (iJ n vs j)) n
  have b:=pC vs (iJ n vs j)
  rw[b.1,b.2,h.1,h.2]at a
  exact a
attribute [local instance] NZ in
theorem adF(hn:n=1\/n=2):Fg 0 (Mo.iA (Mo.cg n)):=let⟨a,b,c,_,_⟩:=Sy hn;Fg.new a b c
attribute [local instance] NZ in
theorem aa6{e:Ending}{w1 w2:World}(hb:Below w w w1)(hn:N=x.c.start.length)(hp:Fg 0 x)(h:PlE x N 0 w1 e w2):∃x0 A k,e=.returned (.pointer (some ⟨x0,0,none⟩))/\Dh w x0 A k N (fun _=>False) 0 x w2:=by obtain⟨x0,A,k,q,s,h1,h2,h3,h4,h5⟩:=h;exact⟨x0,A,k,h2,ai hb h4,hp,hn,q,s,h1,h3,fun b h=>bq hb.size (h5 b h)⟩
attribute [local instance] NZ in
theorem WH(H:Dh w x0 A k N (fun _=>False) i x wr)(hne:x.L≠[])(b:Bool):Calls prog 16 #[.pointer x0,b] wr fun e w'=>e=.returned (.tuple #[])/\Dh w x0 A k N (fun _=>False) i x w':=by obtain⟨h1,h2,h3,q,s,h5,h6,h8⟩:=H;refine(Kq h6 hne b).mono ?_;rintro e w' ⟨rfl,s',h,hF⟩;obtain⟨a1,a2⟩:=gw.below h1 hF h8;exact⟨rfl,a1,h2,h3,q,s',h5,h,a2⟩
end
section
variable{w:World} {A:Option Addr} {m c n:Nat} {vals:List Int}
theorem SD(hm:m=vals.length)(hr:bJ w .i64 A vals)(na:m<=6)(oK:1<=n)(uq:n<=2)(vs:List Int)(jM:vs=vals.map I5)(N:Nat)(hN:TeN n vs N):Calls prog 4 #[.slice A m c,n] w fun e w'=>e=.returned true/\Below w w w':=by
 have HM:=ae hm;have HR:=ae hr;have NW:=ae jM;have NP:=ae hN;clear hm hr jM hN;have e1:IntKind.i64.wrap (2+(n:Int))=((2+n:Nat):Int):=cD _ (by omega);go_enter func4,ntmps4;go_upto_region 5 with fail
 obtain⟨w2,G⟩:∃w2,w2=((w.alloc (.cells #[.int .i64 1] 3)).alloc (.cells #[.int .i64 3,.int .i64 (2+n),.int .i64 (1+n),.int .i64 1,.int .i64 12,.int .i64 2,.int .i64 1,.int .i64 4294967295,.int .i64 1048575,.int .i64 1,.slice (some ⟨w.heap.size,0,none⟩) 1 1] 24)):=⟨_,rfl⟩
 have dU:w2.heap.size=w.heap.size+1+1:=by rw[G];simp
 have bE:Hid (Below w w w2):=by rw[G];exact ak (ak (aj w) _) _
 have ft:Hid (aJ w2 w.heap.size 3 .i64 (.slice (some ⟨w.heap.size,0,none⟩) 1 1) [1]):=by rw[G];exact(aJ.lit w 3 .i64 [1] (by decide)).alloc _
 have Lg:Hid (af w2 (w.heap.size+1) 24 #[.int .i64 3,.int .i64 (2+n),.int .i64 (1+n),.int .i64 1,.int .i64 12,.int .i64 2,.int .i64 1,.int .i64 4294967295,.int .i64 1048575,.int .i64 1,.slice (some ⟨w.heap.size,0,none⟩) 1 1]):=by rw[G];exact af.newAt _ _ _ (by simp)
 rw[<-G];obtain⟨U,Z⟩:∃U,U=w2.alloc (.cells #[.int .i64 9] 3):=⟨_,rfl⟩
 have cM:Hid (Below w w U):=by rw[Z];exact ak bE.Y _
 have jr:Hid (aJ U w.heap.size 3 .i64 (.slice (some ⟨w.heap.size,0,none⟩) 1 1) [1]):=by rw[Z];exact ft.Y.alloc _
 have Yq:=ae (Lg.Y.alloc (.cells #[.int .i64 9] 3));rw[<-Z]at Yq;have L6:Hid (aJ U (w.heap.size+1+1) 3 .i64 (.slice (some ⟨w.heap.size+1+1,0,none⟩) 1 1) [9]):=by rw[Z, <-dU];exact aJ.lit w2 3 .i64 [9] (by decide)
 have G2:Hid (U.heap.size=w.heap.size+1+1+1):=by unfold Hid;rw[Z];simp[dU]
 have e9:w.heap.size+1+1<U.heap.size:=by have:=G2.Y;omega
 rw[<-Z];obtain⟨dc,df,FF⟩:=af.aM Yq.Y;clear Z G ft Lg bE dU;go_wp2_with(at_builtin;refine cH _ rfl _ _ 22 rfl w.heap.size 3 .i64 underlying22 mz _ [1] rfl ?b1 (some ⟨U.heap.size,0,none⟩) 1 1 [0] rfl rfl ?b2 ?b3 ?b4 ?_)
 case b1=>exact jr.Y.alloc _
 case b2=>exact bJ.one U .i64 0 _
 case b3=>decide
 case b4=>simp;omega
 rintro v4 w4 D u L;have L:v4.ownBlock=(Value.slice (some ⟨w.heap.size,0,none⟩) 1 1).ownBlock\/v4.ownBlock=some (U.alloc (.cells #[.int .i64 0] 3)).heap.size:=by simpa using L
 have gC:Hid (Below w w w4):=(jr.Y.alloc _).bh (ak cM.Y _) u (by have:=G2.Y;simp;omega) (aS _);obtain⟨g6,Xh⟩:=CY (Yq.Y.alloc _) (fun e=>by injection e with e;have:w.heap.size=w.heap.size+1:=e;omega) u L;obtain⟨g8,gT⟩:=CX (L6.Y.alloc _) (fun b a hu=>by injection a with a;injection hu with hu;have:w.heap.size+1+1=w.heap.size:=hu.trans a.symm;omega) u L;obtain⟨A4,c4,rfl⟩:=D.shape;have lF:=ae D;have b5:=ae g6;have XQ:=ae g8;have cz:=ae Xh;have eo:=ae gT;clear D u L g6 g8 Xh gT cM jr Yq L6 dc df FF;obtain⟨Gj,gW,iF⟩:=af.aM b5.Y;obtain⟨W,Bg⟩:∃W,W=w4.setCell ⟨w.heap.size+1,10,none⟩ (.slice A4 2 c4):=⟨_,rfl⟩
 have je:Hid (Below w w W):=by rw[Bg];exact gC.Y.setCell (p:=⟨w.heap.size+1,10,none⟩) (by show w.heap.size<=w.heap.size+1;omega) _
 have L8:=ae Bg;clear Bg;go_upto_if 44 with fail
 go_cut[5,6] (fun s5 s6 I=>adE w n s5 s6 I);case first =>
  as_aux_lemma =>
   rw[<-L8.Y]
   have Kh:Hid (af W (w.heap.size+1) 24 #[.int .i64 3,.int .i64 (2+n),.int .i64 (1+n),.int .i64 1,.int .i64 12,.int .i64 2,.int .i64 1,.int .i64 4294967295,.int .i64 1048575,.int .i64 1,.slice A4 2 c4]):=by rw[L8.Y];exact b5.Y.bj 10 _
   have rK:Hid (aJ W w.heap.size 3 .i64 (.slice A4 2 c4) [1,0]):=by rw[L8.Y];exact cJ lF.Y fun b a=>dp _ _ _ b fun e=>cz.Y (a.trans (congrArg some e))
   have aq:Hid (aJ W (w.heap.size+1+1) 3 .i64 (.slice (some ⟨w.heap.size+1+1,0,none⟩) 1 1) [9]):=by rw[L8.Y];exact cJ XQ.Y fun b a=>dp _ _ _ b fun e=>by injection a with a;subst a;have:w.heap.size+1+1=w.heap.size+1:=e;omega
   clear L8 b5 lF XQ gC Gj gW iF G2 e9
   rcases(by omega:n=1\/n=2)with rfl|rfl
   ·go_wp2_with fail;go_meet;exact⟨w.heap.size+1,some ⟨w.heap.size+1+1,0,none⟩,1,c4,A4,rfl,rfl,aS _,Kh.Y,rK.Y.pP.2,aq.Y.pP.2,fun ad e=>by cases e;exact⟨by show w.heap.size<=w.heap.size+1+1;omega,(aX aq.Y rfl).2⟩,je.Y⟩
   ·obtain⟨zO,k7,FD⟩:=af.aM Kh.Y;have gP:∀b,(Value.slice (some ⟨w.heap.size+1+1,0,none⟩) 1 1).ownBlock=some b->(Value.slice A4 2 c4).ownBlock≠some b:=fun b D u=>eo.Y b u D;have en:=ae gP;have lC:=(aX aq.Y rfl).2;clear gP;go_wp2_with(at_builtin;refine cH _ rfl _ _ 22 rfl (w.heap.size+1+1) 3 .i64 underlying22 mz _ [9] rfl ?c1 (some ⟨W.heap.size,0,none⟩) 1 1 [10] rfl rfl ?c2 ?c3 ?c4 ?_)
    case c1=>exact aq.Y.alloc _
    case c2=>exact bJ.one W .i64 10 _
    case c4=>omega
    rintro v6 Q D u L;have L:v6.ownBlock=(Value.slice (some ⟨w.heap.size+1+1,0,none⟩) 1 1).ownBlock\/v6.ownBlock=some (W.alloc (.cells #[.int .i64 10] 3)).heap.size:=by simpa using L
    have xe:Hid (Below w w Q):=(aq.Y.alloc _).bh (ak je.Y _) u (by simp;omega) (by omega);obtain⟨RZ,gQ⟩:=CY (Kh.Y.alloc _) (fun e=>by injection e with e;have:w.heap.size+1+1=w.heap.size+1:=e;omega) u L;obtain⟨NA,gU⟩:=CX (rK.Y.alloc _) en.Y u L;obtain⟨A6,c6,rfl⟩:=D.shape;have eF:=ae D;have cF:=ae RZ;have JY:=ae NA;have j2:=ae gU;have jT:=ae gQ;clear D u L RZ NA gQ gU je rK Kh aq zO k7 FD lC en;obtain⟨wE,FK,lp⟩:=af.aM cF.Y;go_wp2_with(at_builtin;refine cH _ rfl _ _ 22 rfl w.heap.size 3 .i64 underlying22 mz _ [1,0] rfl ?d1 (some ⟨Q.heap.size,0,none⟩) 1 1 [1] rfl rfl ?d2 ?d3 ?d4 ?_)
    case d1=>exact JY.Y.alloc _
    case d2=>exact bJ.one Q .i64 1 _
    case d3=>decide
    case d4=>first|omega|(simp;omega)
    rintro v7 w7 D u L;have L:v7.ownBlock=(Value.slice A4 2 c4).ownBlock\/v7.ownBlock=some (Q.alloc (.cells #[.int .i64 1] 3)).heap.size:=by simpa using L
    have S3:Hid (Below w w w7):=(JY.Y.alloc _).bh (ak xe.Y _) u (by simp;omega) (aS _);obtain⟨g7,gS⟩:=CY (cF.Y.alloc _) cz.Y u L;obtain⟨hP,-⟩:=CX (eF.Y.alloc _) (fun b a1 a2=>j2.Y b a2 a1) u L;obtain⟨A7,c7,rfl⟩:=D.shape;have Yf:=ae hP;have er:=ae g7;have LZ:=ae D;have jV:=ae gS;clear D u L g7 hP gS xe JY cF eF wE FK lp;obtain⟨mV,m4,m9⟩:=af.aM er.Y;go_wp2_with fail;go_meet;obtain⟨w8,bY⟩:∃w8,w8=w7.setCell ⟨w.heap.size+1,10,none⟩ (.slice A7 3 c7):=⟨_,rfl⟩
    have S4:Below w w w8:=by rw[bY];exact S3.Y.setCell (p:=⟨w.heap.size+1,10,none⟩) (by show w.heap.size<=w.heap.size+1;omega) _
    have ld:af w8 (w.heap.size+1) 24 #[.int .i64 3,.int .i64 4,.int .i64 3,.int .i64 1,.int .i64 12,.int .i64 2,.int .i64 1,.int .i64 4294967295,.int .i64 1048575,.int .i64 1,.slice A7 3 c7]:=by rw[bY];exact er.Y.bj 10 _
    have SX:aJ w8 w.heap.size 3 .i64 (.slice A7 3 c7) [1,0,1]:=by rw[bY];exact cJ LZ.Y fun b a=>dp _ _ _ b fun e=>jV.Y (a.trans (congrArg some e))
    have dz:aJ w8 (w.heap.size+1+1) 3 .i64 (.slice A6 2 c6) [9,10]:=by rw[bY];exact cJ Yf.Y fun b a=>dp _ _ _ b fun e=>jT.Y (a.trans (congrArg some e))
    rw[<-bY];exact⟨w.heap.size+1,A6,c6,c7,A7,rfl,rfl,(aJ.cap dz).2,ld,SX.pP.2,dz.pP.2,fun ad e=>by subst e;have:=aX dz rfl;exact⟨by omega,this.2⟩,S4⟩
 case rest =>
  obtain⟨g,H,d,k,A1,rfl,rfl,hd,hg,hs,hh,hZ,a⟩:=hcut;have hn:n=1\/n=2:=by omega
  obtain⟨k1,k2,k3,k4,k5⟩:=Sy hn;have xk:=ae (zv (w:=wc) (A:=A1) (k:=k) (n:=1+n) k1 k2 k3 k4 hs);have j4:Hid (Fg 0 (iA (cg n))):=adF hn;have bM:=ae a;have l9:=ae hg;have qI:=ae hh;have HK:=ae hZ;have j1:=ae hd;have HN:=ae hn;have HS:=ae k4;have HL:=ae k5;obtain⟨dC,gX,jw⟩:=af.aM hg;clear hd hg hs hh hZ a hn k1 k2 k3 k4 k5 e1 b5 lF XQ cz eo gC Gj gW iF G2 e9 je L8;unfold zF at xk;go_wp2_with fail;refine xk.Y.mono ?_;intro e wa h;obtain⟨x0,A2,k2,rfl,f⟩:=aa6 (aj wc) HS.Y j4.Y h;have e5:=ae (WH f HL.Y false);have vY:=ae (qI.Y.below f.1);clear h f xk dC gX jw;go_wp2_with fail;refine e5.Y.mono ?_;rintro e wb ⟨rfl,f⟩;have P:=ae f;clear f e5;have r:=ae (YQ (by omega) P.Y (aj wb) ⟨3,1,nN,8,kB n⟩ ⟨none,0⟩ ⟨H,d⟩ (dG.nil _ _ _ _) (aV _) (qI.Y.below P.Y.1) (by rw[Ks HN.Y];omega) (by rw[Ks HN.Y];exact j1.Y));rw[Ku HN.Y]at r;unfold Sb at r;rw[Ks HN.Y]at r;dsimp only[List.length_nil,nN]at r;clear P;go_wp2_with fail;refine r.Y.mono ?_;rintro e wd ⟨rfl,f,-,-⟩;have uh:=ae f;clear f r;go_upto_region 15 with fail
  have m1:=fun I=>run_mk I 58 22 (z:=.slice none 0 0) (sz:=1) (by_:=24) rfl Nm n (by omega) (by omega) (by decide);have m2:=fun I=>run_mk I 59 4 (z:=.bool false) (sz:=1) (by_:=1) rfl Np n (by omega) (by omega) (by decide);simp only[gu,Nat.mul_one]at m1 m2;generalize rJ:madeCells (Value.slice none 0 0).cells n=M1 at m1;generalize q7:madeCells (Value.bool false).cells n=M2 at m2;have rJ:=ae rJ;have q7:=ae q7;go_region_held3(Ext wd) (with_reducible(repeat(first|assumption|exact Ext.start _|exact Ext.gR _ _|refine Ext.alloc ?_ _))) (fail);all_goals
   go_wp2_with fail;have iV:Hid (sZ wc x0 A2 k2 n wd.heap.size (wd.heap.size+1) 1 (iJ n vs 0) ((wd.alloc (.cells M1 22)).alloc (.cells M2 4)).drew):=by rw[<-rJ.Y, <-q7.Y];exact sZ.aa1 uh.Y (ae5 HN.Y) (ak (ak (aj wd) _) _).drew ((af.new _ _ _).alloc _) (af.newAt _ _ _ (by simp)) (aS _) (cj _)
   generalize((wd.alloc (.cells M1 22)).alloc (.cells M2 4)).drew=we at *;obtain⟨gg,gO⟩:∃gg,gg=wd.heap.size:=⟨_,rfl⟩
   obtain⟨ge,Ae⟩:∃ge,ge=wd.heap.size+1:=⟨_,rfl⟩
   rw[<-Ae, <-gO]at iV ⊢;clear gO Ae;go_loopw[8,11] (fun s8 ei wr=>∃j i:Nat,j<=N/\i<=7*j+1/\ei=j/\s8=(iJ n vs j).jN/\Hid (sZ wc x0 A2 k2 n gg ge i (iJ n vs j) wr)) (fun _ ei _=>N-(intOf ei).toNat);case atStart=>exact⟨0,1,aV _,aS _,rfl,rfl,iV⟩
   case round =>
    clear iV;obtain⟨j,i,hj,hi,rfl,rfl,J⟩:=hrel;have YF:=ae (Wc (w:=wr) (g:=ge) (n:=n) (d:=n) (E:=(iJ n vs j).ended) (zx vs j).1.symm (by omega) J.Y.cell);obtain⟨ok,rF⟩:∃ok,ok=(iJ n vs j).ended.all id:=⟨_,rfl⟩
    rw[<-rF]at YF;have NG:=ae rF;have HJ:j<2950:=by have:=NP.Y.1;omega
    clear rF;have m8:(j:Int)<40000:=by omega
    cases ok with
    |true =>
     as_aux_lemma =>
      have iC:j=N:=by refine Nat.le_antisymm hj (Nat.not_lt.1 fun h=>?_);have D:=NP.Y.2.1 j h;rw[<-NG.Y]at D;cases D
      have Ky:=NP
      unfold TeN at Ky
      rw[<-iC]at Ky
      have Lp:Hid (vs.length=m):=by unfold Hid;rw[NW.Y,HM.Y];exact cW _
      obtain⟨s,hs⟩:∃s,s=iJ n vs j:=⟨_,rfl⟩
      rw[<-hs]at J Ky
      obtain⟨-,-,he,hg,PA⟩:=Ky.Y
      obtain⟨zO,rows,To,X⟩:=J.Y
      rw[he,hg]at X
      have fg:=ae PA;have b8:=ae X
      have cO:=ae (SC To (by omega))
      have j5:=ae (HR.Y.below (ai bM.Y J.Y.jH))
      have mn:=ae (ai bM.Y J.Y.jH)
      obtain⟨V,hV⟩:∃V,V=s.x.V:=⟨_,rfl⟩
      rw[<-hV]at cO
      have HV:=ae hV
      have jI:V.length<=25000:=by rw[hV];have:=To.2.1.B.V;omega
      have ko:=ae jI
      have jU:rows.length=n:=by rw[X.rl];exact gp
      have xB:=ae jU
      clear Ky hs he hg PA zO To X hV jI jU rJ q7 m1 m2 L iC hi hj NP J NG HJ
      go_wp2_with((with_reducible refine YF.Y.mono ?_);rintro e w1 ⟨rfl,rfl⟩)
      clear YF
      go_loop[180] (fun c2=>∃q:Nat,q<=n/\c2=q) (fun c2=>n-(intOf c2).toNat)
      case atStart=>exact⟨0,aV _,rfl⟩
      case round =>
       obtain⟨q,hq,rfl⟩:=hrel;by_cases C:q<n
       ·have nc:(0:Int)<=(q:Int):=by omega
        have KN:(q:Int)<(n:Int):=by omega
        obtain⟨v,M⟩:∃v,rows[q]?=some v:=⟨_,cY (by rw[xB.Y];exact C)⟩
        obtain⟨l,hl,ho⟩:=b8.Y.fit M;rw[List.getElem?_replicate,au C]at hl;injection hl with hl
        subst hl;obtain⟨B,dd,rfl⟩:=ho.shape;rw[Lp.Y]at M ho;have dC:wr.cell? ⟨gg,q,none⟩=some (.slice B m dd):=by rw[b8.Y.gb.cell q];simpa using M
        have gM:wr.cell? ⟨ge,q,none⟩=some (.bool true):=by rw[b8.Y.eb.cell q];simp[C]
        have HO:=ae ho.pP.2;clear M ho;go_wp2_with fail;go_loop[200] (fun c3=>∃k:Nat,k<=m/\c3=k) (fun c3=>m-(intOf c3).toNat);case atStart=>exact⟨0,aV _,rfl⟩
        case round =>
         obtain⟨k,hk,rfl⟩:=hrel;by_cases dM:k<m
         ·have lR:(0:Int)<=(k:Int):=by omega
          have iR:(k:Int)<(m:Int):=by omega
          obtain⟨ad,v,rfl,M,hc⟩:=j5.Y.at_ (i:=k) (by rw[<-HM.Y];exact dM);obtain⟨bd,z,rfl,hz,fH⟩:=HO.Y.at_ (i:=k) (by rw[Lp.Y];exact dM);have l6:z=I5 v:=by
           rw[NW.Y,List.getElem?_map,M]at hz;injection hz with hz
           exact hz.symm
          subst l6;have e1:wrap64 ((IntKind.u64.wrap v).tmod 1000)=I5 v:=SA v;clear M hz;generalize I5 v=z at *;go_wp2_with fail;go_round;case rel=>exact⟨k+1,dM,by go_num⟩
          case measure=>simp[intOf];omega
         ·have kq:k=m:=by omega
          subst kq;have iR:¬(k:Int)<(k:Int):=by omega
          go_wp2_with fail;go_round;case rel=>exact⟨q+1,C,by go_num⟩
          case measure=>simp[intOf];omega
       ·have l4:q=n:=by omega
        subst l4;have KN:¬(q:Int)<(q:Int):=by omega
        go_wp2_with fail;refine cO.Y.mono ?_;rintro e U ⟨B,d3,S,rfl,hS,hX,a⟩;have b6:=ae (letI:OW:=NZ;IL (c:=d3) rfl (by have:=ko.Y;omega) hS hX (by rw[HV.Y];exact fg.Y.2));have cM:=ae (ai mn.Y a);obtain⟨Vn,gK⟩:∃Vn,Vn=V.length:=⟨_,rfl⟩
        rw[<-gK]at b6 ⊢;obtain⟨cn,rL⟩:∃cn,cn=sL V:=⟨_,rfl⟩
        have mB:0<cn:=by have h:=fg.Y.1;rw[<-HV.Y]at h;exact rL▸h
        have my:(0:Int)<(cn:Int):=by omega
        have mN:cn≠0:=by omega
        rw[<-rL]at b6;clear hS hX a gK rL cO;go_wp2_with fail;refine b6.Y.mono ?_;rintro e w4 ⟨B4,d4,rfl,a⟩;have gC:=ae (ai cM.Y a);clear a b6;go_wp2_with fail;refine(BB w4).mono ?_;rintro e W ⟨rfl,a⟩;have je:=ae (ai gC.Y a);clear a;go_wp2_with fail;go_ret;exact⟨rfl,je⟩
    |false =>
     clear rJ q7 m1 m2 L;obtain⟨W0,kX⟩:∃x,x=wc:=⟨_,rfl⟩
     subst kX;have Lp:Hid (vs.length=m):=by unfold Hid;rw[NW.Y,HM.Y];exact cW _
     have oL:=ae (J.Y.task (t:=0) (by omega) (by omega));go_upto_region 20 with((with_reducible refine YF.Y.mono ?_);rintro e w1 ⟨rfl,rfl⟩)
     clear YF;obtain⟨R,bQ⟩:∃R,R=(bm (iJ n vs j).x 0).pc:=⟨_,rfl⟩
     obtain⟨O,Y5⟩:∃O,O=(iJ n vs j).jN:=⟨_,rfl⟩
     rw[<-Y5];have uy:=ae bQ;have Ie:=ae Y5;clear bQ Y5;go_cut[86]from 68 to 177 (fun l7 I=>l7=.bool (decide (R=0/\O<=m))/\Below wr wr I);case first =>
      as_aux_lemma =>
       go_wp2_with fail
       refine oL.Y.mono ?_
       rintro e w1 ⟨s1,rfl,a⟩
       obtain⟨T,f⟩:∃T,T=iK (bm (iJ n vs j).x (0:Nat)) s1:=⟨_,rfl⟩
       rw[<-f]
       have hf:∀w,(Instr.field 50 (.agg T.toArray) 0).run prog w=.ok (.int .i64 R) w:=fun w=>by rw[f,uy.Y];rfl
       have HB:=ae a
       clear f a oL
       by_cases hz:R=0
       ·subst hz;by_cases hs:O<=m
        ·have l5:(O:Int)<=(m:Int):=by omega
         go_wp2_with fail;go_meet;exact⟨by simp[hs],HB.Y⟩
        ·have l5:¬(O:Int)<=(m:Int):=by omega
         have nr:(m:Int)<(O:Int):=by omega
         go_wp2_with fail;go_meet;exact⟨by simp[hs],HB.Y⟩
       ·have d2:(R==0)=false:=by simpa using hz
        go_wp2_with fail;go_meet;exact⟨by simp[hz],HB.Y⟩
     case rest =>
      obtain⟨rfl,a⟩:=hcut;have P:=ae (J.Y.more a);clear a oL J;obtain⟨bo,EY⟩:∃bo,bo=decide (R=0/\O<=m):=⟨_,rfl⟩
      rw[<-EY];have II:=ae EY;clear EY;go_upto_if 86 with fail
      go_cut[8]from 68 to 177 (fun s8 I=>∃i',i'<=7*j+2/\s8=(mO vs (iJ n vs j)).jN/\Hid (sZ W0 x0 A2 k2 n gg ge i' (mO vs (iJ n vs j)) I));case first =>
       cases bo with
       |false=>have Y:¬(R=0/\O<=m):=of_decide_eq_false II.Y.symm;have a8:=Sz uy.Y Ie.Y Lp.Y Y;have b7:=ae a8;clear a8;go_wp2_with fail;go_meet;rw[b7.Y];exact⟨i,by omega,by rw[<-Ie.Y],P⟩
       |true =>
        obtain⟨cy,jh⟩:R=0/\O<=m:=of_decide_eq_true II.Y.symm;have a8:=Nq (vs:=vs) uy.Y Ie.Y Lp.Y ⟨cy,jh⟩ (by have:=P.Y.tl;omega);have b7:=ae a8;have hR:=HR.Y.below (ai bM.Y P.Y.jH);clear a8 cy;go_upto_region 22 with fail
        obtain⟨w2,G⟩:∃w2,w2=wc.alloc (.cells #[.int .i64 4,.int .i64 8,.int .i64 0,.bool false,.slice none 0 0] 42):=⟨_,rfl⟩
        have bE:Hid (Below wc wc w2):=by rw[G];exact ak (aj wc) _
        have Lg:Hid (af w2 wc.heap.size 42 #[.int .i64 4,.int .i64 8,.int .i64 0,.bool false,.slice none 0 0]):=by rw[G];exact af.new _ _ _
        rw[<-G];clear G;obtain⟨aT,lz,jd⟩:=af.aM Lg.Y;have mm:(O:Int)<=(m:Int):=by omega
        by_cases C:O<m
        ·have tI:(O:Int)<(m:Int):=by omega
         obtain⟨ad,v,rfl,M,hc⟩:=(hR.below bE.Y).at_ (i:=O) (by rw[<-HM.Y];exact C);have HV:=ae M;have e1:wrap64 ((IntKind.u64.wrap v).tmod 1000)=I5 v:=SA v;have uw:=ae e1;have JX:=ae (xJ (w:=w2) 1 8 (I5 v));clear M hR e1;go_wp2_with fail;rw[uw.Y];refine JX.Y.mono ?_;rintro e U ⟨z,rfl,hQ,a⟩;have HQ:=ae (sB.fin bE.Y hQ jd [.int .i64 3,.int .i64 0,.int .i64 0,.bool false,.slice z.A 1 z.c]);have cM:Hid (Below wc wc (aw U wc.heap.size 0 [.int .i64 3,.int .i64 0,.int .i64 0,.bool false,.slice z.A 1 z.c])):=ax (aS _) _ _ _ (ai bE.Y a);obtain⟨dc,df,FF⟩:=af.aM (Lg.Y.ai a);unfold mW jB;clear hQ a aT lz jd hc Lg bE JX;go_wp2_with fail;change Calls _ _ _ (aw U wc.heap.size 0 [.int .i64 3,.int .i64 0,.int .i64 0,.bool false,.slice z.A 1 z.c]) _;generalize aw U wc.heap.size 0 [.int .i64 3,.int .i64 0,.int .i64 0,.bool false,.slice z.A 1 z.c]=w4 at *;have r:=ae (P.Y.Wp (by omega) (cM.Y.mono (aS _)) ⟨2,(0:Nat),jB 1 8 (I5 v),0,[]⟩ z ⟨none,0⟩ HQ.Y.1 (show(1:Nat)<=100 by decide) (bJ.nil _ _ _) (aV _) (aV _));refine r.Y.mono ?_;rintro e W ⟨rfl,f⟩;have pV:=ae f;have e2:IntKind.i64.wrap ((O:Int)+1)=((O+1:Nat):Int):=cD _ (by omega);clear f r P cM HQ dc df FF;go_wp2_with fail;go_meet;rw[b7.Y,WB NW.Y HV.Y];exact⟨i+1,by omega,rfl,pV.Y⟩
        ·have tI:(m:Int)<=(O:Int):=by omega
         clear hR;go_wp2_with fail;have r:=ae (P.Y.Wp (by omega) (bE.Y.mono (aS _)) ⟨2,(0:Nat),⟨4,8,0,false,[]⟩,0,[]⟩ ⟨none,0⟩ ⟨none,0⟩ (dG.nil _ _ _ _) (aV _) (bJ.nil _ _ _) (aV _) (aV _));refine r.Y.mono ?_;rintro e W ⟨rfl,f⟩;have pV:=ae f;have e2:IntKind.i64.wrap ((O:Int)+1)=((O+1:Nat):Int):=cD _ (by omega);clear f r P bE Lg aT lz jd;go_wp2_with fail;go_meet;rw[b7.Y,WD (by rw[Lp.Y];omega)];exact⟨i+1,by omega,rfl,pV.Y⟩
      case rest =>
       obtain⟨i1,rN,rfl,uh⟩:=hcut;have ct:=pC vs (iJ n vs j);have Jt:=zx (n:=n) vs j;have eQ:Hid (j+1<=N):=by refine Nat.lt_of_le_of_ne hj fun e=>?_;have D:=NP.Y.2.2.1;have u:=NG.Y;rw[e,D]at u;simp at u
       obtain⟨s0,dQ⟩:∃s0,s0=mO vs (iJ n vs j):=⟨_,rfl⟩
       rw[<-dQ]at uh ct ⊢;have We:Hid (s0.ended.length=n/\s0.got.length=n):=⟨by rw[ct.1];exact Jt.1,by rw[ct.2];exact Jt.2⟩
       have XG:=ae dQ;clear dQ ct Jt hj NG II uy Ie rJ q7;go_upto_region 27 with fail
       go_loopw[108] (fun zy wr=>∃k i':Nat,k<=n/\i'<=i1+2*k/\zy=k/\Hid (sZ W0 x0 A2 k2 n gg ge i' (qg (kB n) s0 k) wr)) (fun zy _=>n-(intOf zy).toNat);case atStart=>exact⟨0,i1,aV _,aS _,rfl,uh⟩
       case round =>
        clear uh;obtain⟨k,i2,hk,m6,rfl,J⟩:=hrel;by_cases C:k<n
        ·have tI:(k:Int)<(n:Int):=by omega
         have lR:(0:Int)<=(k:Int):=by omega
         have e2:IntKind.i64.wrap (2+(k:Int))=((2+k:Nat):Int):=cD _ (by omega);have xu:=zw (kB n) s0 k;rw[We.Y.1,We.Y.2]at xu;have dP:qg (kB n) s0 (k+1)=Nx (kB n) (qg (kB n) s0 k) k:=rfl;have dg:GB (n*j+k) (qg (kB n) s0 k):=C0 (fun l hl=>Kw vs j l ((pC vs (iJ n vs j)).2▸(XG.Y▸hl))) k;obtain⟨s,hs⟩:∃s,s=qg (kB n) s0 k:=⟨_,rfl⟩
         rw[<-hs]at J xu dP dg;have j3:Hid (∀l∈s.got,l.length<=6000):=fun l hl=>bq (dg l hl) (by
          have u:n*j<=2*j:=Nat.mul_le_mul_right j (by omega);omega)
         clear dg;have rR:=ae xu;have rX:=ae dP;clear hs xu dP;obtain⟨b,a⟩:∃b,s.ended[k]?=some b:=⟨_,cY (by rw[rR.Y.1];exact C)⟩
         have kZ:=J.Y.cell k b a;have cC:=ae a;clear a;cases b with
         |true =>
          go_wp2_with fail;go_roundw;case rel=>exact⟨k+1,i2,C,by omega,by go_num,by rw[rX.Y,WE cC.Y];exact J⟩
          case measure=>simp[intOf];omega
         |false =>
          have oL:=ae (J.Y.task (t:=2+k) (by omega) (by omega));obtain⟨R,bQ⟩:∃R,R=(bm s.x (2+k)).pc:=⟨_,rfl⟩
          have uy:=ae bQ;clear bQ;go_upto_region 31 with fail
          clear kZ;go_cut[108,121]from 108 to 171 (fun zy kG I=>zy=k/\kG=.bool (decide (R=0))/\Below wr wr I);case first =>
           as_aux_lemma =>
            go_wp2_with fail
            refine oL.Y.mono ?_
            rintro e w1 ⟨s1,rfl,a⟩
            obtain⟨T,f⟩:∃T,T=iK (bm s.x (2+k)) s1:=⟨_,rfl⟩
            rw[<-f]
            have hf:∀w,(Instr.field 50 (.agg T.toArray) 0).run prog w=.ok (.int .i64 R) w:=fun w=>by rw[f,uy.Y];rfl
            have HB:=ae a
            clear f a oL
            go_wp2_with fail
            go_meet
            exact⟨rfl,by first|rfl|(by_cases hz:R=0<;>simp[hz]),HB.Y⟩
          case rest =>
           obtain⟨rfl,rfl,a⟩:=hcut;have P:=ae (J.Y.more a);clear a oL J;obtain⟨bo,EY⟩:∃bo,bo=decide (R=0):=⟨_,rfl⟩
           rw[<-EY];have II:=ae EY;clear EY;go_upto_if 121 with fail
           go_cut[108]from 108 to 171 (fun zy I=>zy=k/\∃i',i'<=i2+1/\Hid (sZ W0 x0 A2 k2 n gg ge i' {s with x:=te1 (kB n) s k} I));case first =>
            cases bo with
            |false=>have Y:¬R=0:=of_decide_eq_false II.Y.symm;have Ky:=ae (aa3 (h:=kB n) uy.Y Y);clear Y;go_wp2_with fail;go_meet;rw[Ky.Y];exact⟨rfl,i2,cj _,P⟩
            |true=>have hH:=qI.Y.below P.Y.jH;obtain⟨ad,M,rfl,hh,hc⟩:=hH.at_ (i:=k) (by rw[Ks HN.Y];exact C);have JX:=ae (xJ (w:=wc) 2 M 0);have Ky:=ae (WG uy.Y (of_decide_eq_true II.Y.symm) hh (by have:=P.Y.tl;omega));clear hH hh;go_wp2_with fail;refine JX.Y.mono ?_;rintro e U ⟨z,rfl,hQ,a⟩;have r:=ae (P.Y.Wp (by omega) a ⟨2,(2+k:Nat),jB 2 M 0,0,[]⟩ z ⟨none,0⟩ hQ.1 (show(1:Nat)<=100 by decide) (bJ.nil _ _ _) (aV _) (aV _));unfold mW jB;clear hQ a hc JX;go_wp2_with fail;refine r.Y.mono ?_;rintro e W ⟨rfl,f⟩;have pV:=ae f;clear f r P;go_wp2_with fail;go_meet;rw[Ky.Y];exact⟨rfl,i2+1,aS _,pV.Y⟩
           case rest =>
            obtain⟨rfl,i3,m7,pV⟩:=hcut;clear P II;obtain⟨x1,dS⟩:∃x1,x1=te1 (kB n) s k:=⟨_,rfl⟩
            rw[<-dS]at pV;have xx:=ae dS;have r:=ae (pV.Y.Wp (by omega) (aj wc) ⟨1,(2+k:Nat),nN,0,[]⟩ ⟨none,0⟩ ⟨none,0⟩ (dG.nil _ _ _ _) (aV _) (bJ.nil _ _ _) (aV _) (aV _));dsimp only at r;rw[CZ (by have:=pV.Y.tl;dsimp only at this;omega)]at r;clear dS pV;go_wp2_with fail;refine r.Y.mono ?_;rintro e W ⟨rfl,f⟩;have Tm:=ae f;have oL:=ae (f.task (t:=2+k) (by omega) (by omega));clear f r;go_upto_region 34 with fail
            go_wp2_with fail;refine oL.Y.mono ?_;rintro e Q ⟨sk,rfl,a⟩;have xe:=ae a;obtain⟨x2,dT⟩:∃x2,x2=iO x1 (2+k):=⟨_,rfl⟩
            rw[<-dT]at Tm ⊢;obtain⟨y,hy⟩:∃y,y=bm x2 (2+k):=⟨_,rfl⟩
            rw[<-hy];have UF:=ae (aa2 cC.Y (dT.trans (by rw[xx.Y])) hy);obtain⟨T1,qN⟩:∃T1,T1=iK y sk:=⟨_,rfl⟩
            rw[<-qN];have AH:Hid (T1.length=34):=by rw[qN];rfl
            have Da:=ae qN;clear qN hy dT a oL xx;go_upto_region 35 with(refine wpList_store_mid rfl 50 _ _ rfl Q.heap.size 0 T1.toArray rfl rfl (af.there (af.new Q 50 zT.toArray) 0 _ (by rw[jG,AH.Y];decide)) (by rw[jG,AH.Y];rfl) (by rw[Da.Y];exact eK _ _) ?_)
            rw[jm];change Code.wp _ _ _ _ (aw (Q.alloc (.cells zT.toArray 50)) Q.heap.size 0 T1);obtain⟨w7,cw⟩:∃w7,w7=aw (Q.alloc (.cells zT.toArray 50)) Q.heap.size 0 T1:=⟨_,rfl⟩
            have vu:Below Q Q w7:=by rw[cw];exact ax (aS _) _ _ _ (ak (aj Q) _)
            have S1:Hid (af w7 Q.heap.size 50 (iK y sk).toArray):=by rw[cw, <-Da.Y];exact aQ (cs:=zT) (af.new Q _ _) (by rw[AH.Y];rfl)
            have zH:=ae (Tm.Y.more (ai xe.Y vu));rw[<-cw];generalize Q.heap.size=gz at *;clear cw vu Tm xe AH Da;obtain⟨pz,nH⟩:∃pz,pz=y.pc:=⟨_,rfl⟩
            obtain⟨co,NV⟩:∃co,co=y.res.code:=⟨_,rfl⟩
            have Yx:=ae nH;have a6:=ae NV;clear nH NV;have jQ:w7.cell? ⟨gz,0,none⟩=some (.int .i64 pz):=by rw[S1.Y.cell 0,Yx.Y];rfl
            have fh:w7.cell? ⟨gz,29,none⟩=some (.int .i64 co):=by rw[S1.Y.cell 29,a6.Y];rfl
            simp only[aC];go_cut[108,146]from 108 to 171 (fun zy kK I=>zy=k/\kK=.bool (decide (pz=0/\co=0))/\I=w7);case first =>
             as_aux_lemma =>
              by_cases hz:pz=0
              ·subst hz;by_cases hc:co=0
               ·subst hc;go_wp2_with fail;go_meet;exact⟨rfl,rfl,rfl⟩
               ·go_wp2_with fail;go_meet;exact⟨rfl,by simp[hc],rfl⟩
              ·go_wp2_with fail;go_meet;exact⟨rfl,by simp[hz],rfl⟩
            case rest =>
             obtain⟨rfl,rfl,rfl⟩:=hcut;obtain⟨bo,EY⟩:∃bo,bo=decide (pz=0/\co=0):=⟨_,rfl⟩
             rw[<-EY];have II:=ae EY;clear EY jQ fh;go_upto_if 146 with fail
             go_cut[108]from 108 to 171 (fun zy I=>zy=k/\Hid (af I gz 50 (iK y sk).toArray)/\Hid (sZ W0 x0 A2 k2 n gg ge (i3+1) {s with x:=x2,got:=if y.pc=0/\y.res.code=0 then s.got.set k (s.got.getD k []++[y.res.value])else s.got} I));case first =>
              cases bo with
              |false =>
               have Y:¬(y.pc=0/\y.res.code=0):=by rw[<-Yx.Y, <-a6.Y];exact of_decide_eq_false II.Y.symm
               have xp:=ae Y;clear Y;go_wp2_with fail;go_meet;rw[ah xp.Y];exact⟨rfl,S1,zH⟩
              |true =>
               have fJ:y.pc=0/\y.res.code=0:=by rw[<-Yx.Y, <-a6.Y];exact of_decide_eq_true II.Y.symm
               have kL:=ae fJ;obtain⟨va,cv⟩:∃va,va=y.res.value:=⟨_,rfl⟩
               have kd:=ae cv;have fK:wc.cell? ⟨gz,30,none⟩=some (.int .i64 va):=by rw[S1.Y.cell 30,cv];rfl
               have ni:=S1.Y.lt;obtain⟨zO,rows,To,X⟩:=zH.Y;obtain⟨v,M⟩:∃v,rows[k]?=some v:=⟨_,cY (by rw[X.rl];dsimp only;rw[rR.Y.2];exact C)⟩
               obtain⟨l,hl,ho⟩:=X.fit M;obtain⟨B,dd,rfl⟩:=ho.shape;have ez:=ae (j3.Y l (dB hl));obtain⟨ll,lK⟩:∃ll,ll=l.length:=⟨_,rfl⟩
               rw[<-lK]at ho M;have C6:=ae lK;have HO:=ae ho;have HV:=ae M;have YB:=ae hl;have e8:=ae To;have b8:=ae X;have M6:=ae zO;have gD:rows.toArray[k]?=some (.slice B ll dd):=by simpa using M
               have kW:wc.cell? ⟨gg,k,none⟩=some (.slice B ll dd):=(X.gb.cell k).trans gD;have JM:=ae gD;have a7:Below wc wc (wc.alloc (.cells #[.int .i64 va] 3)).drew:=(ak (aj wc) _).drew;have fM:=ae (To.more a7);have WJ:=ae (X.same fun b h=>a7.block b (To.lt h));have I0:=ae (aa4 HO.Y a7);have c0:=ae (S1.Y.ai a7);have ea:(iK y sk).toArray[30]?=some (.int .i64 va):=by rw[cv];rfl
               have cd:=ae ea;have Nf:=ae ((c0.Y.cell 30).trans ea);clear a7 gD ea;obtain⟨dC,gX,jw⟩:=af.aM X.gb;clear dC fJ cv lK ho M hl To X zO;go_upto_region 36 with fail
               refine wp_region_held_drew (S:=fun I=>I.cell? ⟨gz,30,none⟩=some (.int .i64 va)) (by kernel_rfl) fK (fun hHeld=>?_);refine aP 0 hHeld ?_;refine aP 1 hHeld ?_;refine aP 2 hHeld ?_;refine aP 3 hHeld ?_;(try simp only[aC]);refine aP 4 hHeld ?_;refine aP 6 hHeld ?_;refine aP 7 hHeld ?_;refine aP 8 hHeld ?_;(try simp only[aC]);refine wpAnyH_ready (rs:=[5,9]) (by kernel_rfl) (by simp) ?_;refine(AllReadyH.cons (o:=⟨some 152,_,_,_,_,_⟩) rfl (fun K F=>?_) (AllReadyH.cons (o:=⟨some 156,_,_,_,_,_⟩) rfl (fun K F=>?_) AllReadyH.nil));go_simp;refine F.Y _ _ fK (fun hHeld=>?_);clear F K;(try simp only[aC]);refine et 9 (fun K F=>?_);go_simp;refine F.Y _ _ Nf.Y (fun hHeld=>?_);clear F K;(try simp only[aC]);refine et 10 (fun K F=>?_);refine kH rfl _ _ 22 rfl W0.heap.size 3 .i64 underlying22 mz (.slice B ll dd) l rfl I0.Y (some ⟨wc.heap.size,0,none⟩) 1 1 [va] rfl rfl (bJ.one wc .i64 va _) (by have:=ez.Y;simp;omega) (by have:=e8.Y.1.size;simp;omega) (fun v4 w4 bR bg Eh=>?_);obtain⟨A4,c4,bz⟩:=bR.shape;rw[eW,gL, <-C6.Y]at bz;subst bz;have C4:=WJ.Y.kept HV.Y bg;have Fo:=SB I0.Y c0.Y bg;have Aa:=(C4.cell k).trans JM.Y;have Ab:=af.free C4 k;have Mu:=ae (Fo.bO (p:=⟨gg,k,none⟩) (YR Fo C4) (.slice A4 (ll+1) c4));have Ky:=ae (sZ.WA M6.Y fM.Y WJ.Y HV.Y bR bg Eh);refine F.Y _ _ ((Fo.cell 30).trans cd.Y) (fun hHeld=>?_);clear F K C4 Fo bR bg Eh;(try simp only[aC]);refine aP 11 hHeld ?_;(try simp only[aC]);refine et 12 (fun K F=>?_);go_simp;refine F.Y _ _ ((Mu.Y.cell 30).trans cd.Y) (fun hHeld=>?_);clear F K;(try simp only[aC]);refine wpAnyH_done (by kernel_rfl) ?_ _;rotate_left;go_simp;refine F.Y _ _ Nf.Y (fun hHeld=>?_);clear F K;(try simp only[aC]);refine et 5 (fun K F=>?_);go_simp;refine F.Y _ _ Nf.Y (fun hHeld=>?_);clear F K;(try simp only[aC]);refine et 10 (fun K F=>?_);refine kH rfl _ _ 22 rfl W0.heap.size 3 .i64 underlying22 mz (.slice B ll dd) l rfl I0.Y (some ⟨wc.heap.size,0,none⟩) 1 1 [va] rfl rfl (bJ.one wc .i64 va _) (by have:=ez.Y;simp;omega) (by have:=e8.Y.1.size;simp;omega) (fun v4 w4 bR bg Eh=>?_);obtain⟨A4,c4,bz⟩:=bR.shape;rw[eW,gL, <-C6.Y]at bz;subst bz;have C4:=WJ.Y.kept HV.Y bg;have Fo:=SB I0.Y c0.Y bg;have Aa:=(C4.cell k).trans JM.Y;have Ab:=af.free C4 k;have Mu:=ae (Fo.bO (p:=⟨gg,k,none⟩) (YR Fo C4) (.slice A4 (ll+1) c4));have Ky:=ae (sZ.WA M6.Y fM.Y WJ.Y HV.Y bR bg Eh);refine F.Y _ _ ((Fo.cell 30).trans cd.Y) (fun hHeld=>?_);clear F K C4 Fo bR bg Eh;(try simp only[aC]);refine aP 11 hHeld ?_;(try simp only[aC]);refine et 12 (fun K F=>?_);go_simp;refine F.Y _ _ ((Mu.Y.cell 30).trans cd.Y) (fun hHeld=>?_);clear F K;(try simp only[aC]);refine wpAnyH_done (by kernel_rfl) ?_ _;all_goals
                go_wp2_with fail;go_meet;rw[au kL.Y,cZ,YB.Y, <-kd.Y];exact⟨rfl,Mu,Ky⟩
             case rest =>
              obtain⟨rfl,e6,S7⟩:=hcut;clear S1 zH II;have jQ:wc.cell? ⟨gz,0,none⟩=some (.int .i64 pz):=by rw[e6.Y.cell 0,Yx.Y];rfl
              have fh:wc.cell? ⟨gz,29,none⟩=some (.int .i64 co):=by rw[e6.Y.cell 29,a6.Y];rfl
              have m0:=S7.Y.cell k false cC.Y;obtain⟨rows,To,X⟩:=S7.Y.2;obtain⟨gM,m5,jh⟩:=af.aM X.eb;have e3:IntKind.i64.wrap ((k:Int)+1)=((k+1:Nat):Int):=cD _ (by omega);obtain⟨b,a⟩:∃b,b=(pz==0 && co==9):=⟨_,rfl⟩
              have kM:Hid (qg (kB n) s0 (k+1)=⟨x2,s.jN,if y.pc=0/\y.res.code=0 then s.got.set k (s.got.getD k []++[y.res.value])else s.got,s.ended.set k b⟩):=by unfold Hid;rw[rX.Y,UF.Y,a,Yx.Y,a6.Y]
              have Ky:=ae (S7.Y.end_ k b);clear gM To X rows;rcases(by
               by_cases D:pz=0
               ·by_cases u:co=9
                ·exact .inl ⟨D,u,by rw[a,D,u];rfl⟩
                ·exact .inr (.inl ⟨D,by simpa using u,by rw[a];simp[u]⟩)
               ·exact .inr (.inr ⟨D,by rw[a];simp[D]⟩):(pz=0/\co=9/\b=true)\/(pz=0/\(co==9)=false/\b=false)\/(¬pz=0/\b=false))with⟨rfl,rfl,rfl⟩|⟨rfl,h9,rfl⟩|⟨hz,rfl⟩
              all_goals
               clear a S7 UF rX;go_wp2_with fail;go_roundw;case rel=>exact⟨k+1,i3+1,C,by omega,rfl,by rw[kM.Y];exact Ky.Y⟩
               case measure=>simp[intOf];omega
        ·have rE:k=n:=by omega
         as_aux_lemma =>
          subst rE
          have tI:¬(k:Int)<(k:Int):=by omega
          have r:=ae (J.Y.Wp (by omega) (aj wr) ⟨1,(0:Nat),nN,0,[]⟩ ⟨none,0⟩ ⟨none,0⟩ (dG.nil _ _ _ _) (aV _) (bJ.nil _ _ _) (aV _) (aV _))
          rw[CZ (by have:=J.Y.tl;omega)]at r
          dsimp only at r
          go_wp2_with fail
          refine r.Y.mono ?_
          rintro e W ⟨rfl,f⟩
          have yM:=ae (f.Wp (by omega) (aj W) ⟨1,(1:Nat),nN,0,[]⟩ ⟨none,0⟩ ⟨none,0⟩ (dG.nil _ _ _ _) (aV _) (bJ.nil _ _ _) (aV _) (aV _))
          rw[CZ (by have:=f.tl;omega)]at yM
          dsimp only at yM
          clear f r J
          go_wp2_with fail
          refine yM.Y.mono ?_
          rintro e Q ⟨rfl,f⟩
          have uh:=ae f
          have e3:IntKind.i64.wrap ((j:Int)+1)=((j+1:Nat):Int):=cD _ (by omega)
          have e7:Hid (iJ k vs (j+1)={qg (kB k) s0 k with x:=iO (iO (qg (kB k) s0 k).x 0) 1}):=by unfold Hid;rw[XG.Y];rfl
          have AV:Hid ((iJ k vs (j+1)).jN=s0.jN):=by unfold Hid;rw[e7.Y];exact BC _ _ _
          clear f yM
          go_wp2_with fail
          go_roundw
          case rel=>exact⟨j+1,i2+1+1,eQ.Y,by omega,by go_num,by rw[AV.Y],by rw[e7.Y];exact uh.Y⟩
          case measure=>have:=eQ.Y;simp[intOf];omega
end
end Go.Proofs.YtjcjjiieblineaaGreat
