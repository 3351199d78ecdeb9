/- Walks and plain facts. No condition. -/
import Derived.Test.YtpfbfhfcbdbglaaGreatPb
namespace Go.Proofs.YtpfbfhfcbdbglaaGreat
open Go.RowKit Go.Proofs.Tryz Mo
set_option maxHeartbeats 8000000
set_option maxRecDepth 100000
set_option linter.all false
variable {l:List Int}{g:Nat}{t:TypeId}{a0 a1 a2 a3 a4:Value}
theorem OD(A B:Option Addr)(c d:Nat)(b f:List Int)(w:World)(Q:b.length<=17592186044416)(p:f.length<=17592186044416)(F:bD w .i64 A b)(G:bD w .i64 B f) :
 Calls prog 35 #[.slice A b.length c,.slice B f.length d] w λe S=>e=.returned (.bool (b==f))/\iP w S:=by
 obtain⟨n,r⟩:∃n,n=b.length:=⟨_,rfl⟩
 obtain⟨m,q⟩:∃m,m=f.length:=⟨_,rfl⟩
 rw[<-r]at Q ⊢
 rw[<-q]at p ⊢
 by_cases M:n=m
 .subst M;have u:=ae r;clear r;have t:=ae q;clear q;have K:=ae F;clear F;have L:=ae G;clear G;go_enter func35,ntmps35;go_wp2;go_loopw[13] (λi wr=>∃k:Nat,k<=n/\i=.int .i64 k/\Hid (iP w wr)/\Hid (∀j x y,j<k->b[j]?=some x->f[j]?=some y->x=y)) (λi _=>n-(intOf i).toNat);case atStart=>exact⟨0,aZ _,rfl,iP.refl _,λj x y P=>by omega⟩
  case round =>
   obtain⟨k,Z,rfl,g,v⟩:=hrel;by_cases a:k<n
   .obtain⟨V,x,N,H,X⟩:=bD.at_ (K.Y.drew g.Y) (by rw[<-u.Y];exact a);obtain⟨W,y,O,I,Y⟩:=bD.at_ (L.Y.drew g.Y) (by rw[<-t.Y];exact a);subst N;subst O;have z:=ae H;clear H;have C:=ae I;clear I;by_cases h:x=y
    .subst h;go_wp2;go_quiet(fail);go_wp2;go_roundw;case rel =>
      refine⟨k+1,by omega,by go_num,g.Y.more _,λj T U P J s=>?_⟩;by_cases o:j=k
      .subst o;have D:=z.Y.symm.trans J;have E:=C.Y.symm.trans s;simp only[Option.some.injEq]at D E;rw[<-D, <-E]
      .exact v.Y j T U (by omega) J s
     case measure=>simp[intOf];omega
    .have pA:(x !=y)=true:=by simpa using h
     have l:=ae h;clear h;go_wp2;go_quiet(fail);go_wp2;go_ret;refine⟨bK ?_,g.Y.more _⟩;symm;rw[dp];rintro rfl;have:=z.Y.symm.trans C.Y;simp only[Option.some.injEq]at this;exact l.Y this
   .go_wp2;go_ret;refine⟨bK ?_,g.Y⟩;symm;rw[beq_iff_eq];exact xK u.Y t.Y a v.Y
 .have R:((n:Int) !=(m:Int))=true:=by simp;omega
  go_enter func35,ntmps35;go_wp2;go_ret;refine⟨bK ?_,iP.refl _⟩;symm;rw[dp];rintro rfl;omega
def rT(x:Int):Int×Int×Int:=(x%256,x/256%65536,x/4294967296)
section
variable(w:World)
theorem OE{a w:World}(h:Below a a w)(b:a.heap.size<=g)(u0 u1 u2 u3 u4:Value) :
 Below a a (((((w.setCell ⟨g,0,none⟩ u0).setCell ⟨g,1,none⟩ u1).setCell ⟨g,2,none⟩ u2).setCell ⟨g,3,none⟩ u3).setCell ⟨g,4,none⟩ u4) :=
 ((((h.setCell b _).setCell b _).setCell b _).setCell b _).setCell b _
theorem VS{w:World}(h:ag w g t #[a0,a1,a2,a3,a4])(u0 u1 u2 u3 u4:Value) :
 (w.setCell ⟨g,0,none⟩ u0).cell? ⟨g,0,none⟩=some u0/\((w.setCell ⟨g,0,none⟩ u0).setCell ⟨g,1,none⟩ u1).cell? ⟨g,1,none⟩=some u1 /\
  (((w.setCell ⟨g,0,none⟩ u0).setCell ⟨g,1,none⟩ u1).setCell ⟨g,2,none⟩ u2).cell? ⟨g,2,none⟩=some u2 /\
  ((((w.setCell ⟨g,0,none⟩ u0).setCell ⟨g,1,none⟩ u1).setCell ⟨g,2,none⟩ u2).setCell ⟨g,3,none⟩ u3).cell? ⟨g,3,none⟩=some u3 /\
  (((((w.setCell ⟨g,0,none⟩ u0).setCell ⟨g,1,none⟩ u1).setCell ⟨g,2,none⟩ u2).setCell ⟨g,3,none⟩ u3).setCell ⟨g,4,none⟩ u4).cell? ⟨g,4,none⟩=some u4:=by
 have a:=h.bp 0 u0
 have b:=a.bp 1 u1
 have c:=b.bp 2 u2
 have d:=c.bp 3 u3
 have e:=d.bp 4 u4
 exact⟨by rw[a.cell];rfl,by rw[b.cell];rfl,by rw[c.cell];rfl,by rw[d.cell];rfl,by rw[e.cell];rfl⟩
theorem aaz{α:Type}{w:World}{base m:Nat}{e:TypeId}{f:α->List Value}{A:Option Addr}{n c:Nat}{j:List α}(o:aH w base e m f (.slice A n c) j)(h:ag w g t #[a0,a1,a2,a3,a4])(a:e≠t)(u0 u1 u2 u3 u4:Value) :
 cN (((((w.setCell ⟨g,0,none⟩ u0).setCell ⟨g,1,none⟩ u1).setCell ⟨g,2,none⟩ u2).setCell ⟨g,3,none⟩ u3).setCell ⟨g,4,none⟩ u4) f A j:=by
 have q:=o.b9 h a 0 u0
 have i:=h.bp 0 u0
 have r:=q.b9 i a 1 u1
 have k:=i.bp 1 u1
 have s:=r.b9 k a 2 u2
 have l:=k.bp 2 u2
 have u:=s.b9 l a 3 u3
 have p:=l.bp 3 u3
 have v:=u.b9 p a 4 u4
 obtain⟨x,y,d,b⟩:=v.rd
 injection d with d
 rw[d]
 exact b
def X2(l:List Int):Int:=l.getD 0 0/256%16
def Tu(l:List Int):List (Int×Int×Int):=((l.drop 1).take (X2 l).toNat).map rT
def jK(l:List Int):Bool:=decide (l.length=5) && decide (X2 l<=3) && decide (l.getD 4 0<=4294967295) &&
 (lK (l.getD 0 0%256) (l.getD 0 0/65536%65536) (l.getD 0 0/4294967296) (l.getD 0 0/4096%2==1) (Tu l) (l.getD 4 0)==l)
def qK(l:List Int):Int:=if jK l=true then l.getD 0 0%256 else 0
def qA(l:List Int):Int:=if jK l=true then l.getD 0 0/65536%65536 else 0
def qV(l:List Int):Int:=if jK l=true then l.getD 0 0/4294967296 else 0
def qD(l:List Int):Bool:=if jK l=true then l.getD 0 0/4096%2==1 else false
def qC(l:List Int):List (Int×Int×Int):=if jK l=true then Tu l else[]
def qP(l:List Int):Int:=if jK l=true then l.getD 4 0 else 0
def aaA(i f m:Int)(h:Bool)(a:List (Int×Int×Int))(k:Int)(j:Bool)(w:World)(e:Ending)(c:World):Prop:=(∃B d,e=.returned (.tuple #[.agg #[i,f,m,h,.slice B a.length d],k,j])/\cN c bj B a/\∀b,B=some b->a≠[]->w.heap.size<=b.block)/\Below w w c
def z7(l:List Int)(w:World)(e:Ending)(a:World):Prop:=aaA (qK l) (qA l) (qV l) (qD l) (qC l) (qP l) (jK l) w e a
theorem z7.no{w a:World}(h:jK l=false)(b:Below w w a):z7 l w (.returned (.tuple #[.agg #[oZ,oZ,oZ,false,oN],oZ,false])) a:=by unfold z7 qK qA qV qD qC qP;simp only[h,Bool.false_eq_true,if_false];exact⟨⟨none,0,rfl,cN.nil _ _ _,λc h=>by cases h⟩,b⟩
theorem Ge(h:3<X2 l):jK l=false:=by unfold jK;rw[bF (p:=X2 l<=3) aa];simp
theorem KH(h:4294967295<l.getD 4 0):jK l=false:=by unfold jK;rw[bF (p:=l.getD 4 0<=4294967295) aa];simp
theorem KI(h:¬l.length=5):jK l=false:=by unfold jK;rw[bF h];simp
theorem KJ(e a j:Int)(c:Bool)(b:List (Int×Int×Int))(f:Int):(lK e a j c b f).length<=17592186044416:=by
 unfold lK;split
 .rename_i h;have d:=h.1;simp only[bt,eT,eI]at d;simp;omega
 .simp
theorem KL:(prog.info? 101).map (λi=>(i.zero,i.size,i.bytes))=some (some (.agg #[oZ,oZ,oZ]),3,24):=by kernel_rfl
theorem z8(u:Addr)(c:Nat)(a j m o b r q s D:Int)(n:Nat)(mX:5<=c)(cG:w.cell? u=some (.int .u64 a))(c0:w.cell? ⟨u.block,u.off+4,none⟩=some (.int .u64 b))(c4:u.block<w.heap.size)(Gf:Hid (bD w .u64 (some ⟨u.block,u.off+1,none⟩) [j,m,o,b]))(rB:Hid (bD w .u64 (some u) [a,j,m,o,b]))(a1:bits BinOp.and IntKind.u64 a 255=r)(a2:0<=r)(a3:r<=255)(a4:bits BinOp.and IntKind.u64 (a/65536) 65535=q)(a5:0<=q)(a6:q<=65535)(a8:a/4294967296=s)(a9:0<=s)(b8:s<=4294967295)(b1:bits BinOp.and IntKind.u64 (a/4096) 1=D)(b3:bits BinOp.and IntKind.u64 (a/256) 15=(n:Int))(h3:n<=3)(cF:0<=b)(h4:b<=4294967295)(cv:0<=a)(hz:∀z∈[a,j,m,o,b],0<=z/\z<18446744073709551616)(a0:a%256=r)(a7:a/65536%65536=q)(N:a/4294967296=s)(b2:a/4096%2=D)(b5:a/256%16=(n:Int)) :
 Calls prog 149 #[.slice (some u) 5 c] w λe w'=>z7 [a,j,m,o,b] w e w':=by
 obtain⟨HZ,A0,A7,A8,B2,B5⟩:=cS hz a0 a7 N b2 b5
 clear hz a0 a7 N b2 b5
 have Gg:decide ((3:Int)<(n:Int))=false:=by simp;omega
 have Tv:decide (4294967295<b)=false:=bF aa
 go_enter func149,ntmps149
 go_wp2
 go_quiet(fail)
 go_wp2_with fail
 rw[Nat.add_sub_cancel_left]
 go_loopw[52] (λi wr=>∃(k:Nat) (v:Value) (l:List (Int×Int×Int)),k<=n/\i=k /\
  Hid (ag wr w 38 #[oZ,oZ,oZ,false,oN]) /\
  Hid (ag wr (w.heap.size+1) 38 #[r,q,s,(D==1),v]) /\
  Hid (aH wr w 101 3 bj v l)/\Hid (l.length=k)/\Hid (l=(([j,m,o,b]:List Int).take k).map rT)/\Below w w wr/\w.heap.size+1<wr.heap.size) (λi _=>n-(intOf i).toNat)
 case atStart =>
  refine⟨0,_,[],aZ _,rfl,?_,?_,aH.nil _ _ _ _ _,rfl,rfl,bZ (aj (aj (ai _) _) _) _,?_⟩
  .exact(((ag.new w _ _).alloc _).drewN _)
  .exact(ag.newAt _ _ _ aA).drewN _
  .simp
 case round =>
  obtain⟨k,v,l,hk,rfl,O,P,G,I,V,R,dc⟩:=hrel;have b7:wr.cell? ⟨w.heap.size+1,4,none⟩=some v:=by rw[ag.cell P.Y];rfl
  by_cases pC:k<n
  .obtain⟨_,x,h,hx,aT⟩:=bD.at_ (Gf.below R) (i:=k) (by simp;omega);injection h with h;subst h
   rw[lU]at aT;have BS:=HZ.Y x (List.mem_cons_of_mem _ (cH hx));obtain⟨d,x1,x2,x3,x4⟩:∃d,bits BinOp.and IntKind.u64 x 255=d/\0<=d/\d<=255/\x%256=d:=⟨_,BK _ aa aa,aa,aa,rfl⟩
   obtain⟨t,x5,x6,x7,x8⟩:∃t,bits BinOp.and IntKind.u64 (x/256) 65535=t/\0<=t/\t<=65535/\x/256%65536=t:=⟨_,xP _ aa aa,aa,aa,rfl⟩
   obtain⟨E,x9,y1,y2⟩:∃E,x/4294967296=E/\0<=E/\E<=4294967295:=⟨_,rfl,aa,aa⟩
   have hdec:rT x=(d,t,E):=by unfold rT;rw[x4,x8,x9]
   obtain⟨M,HX⟩:=av hdec hx;have df:0<=x:=BS.1;clear hdec hx x4 x8 BS;go_wp2_with(at_builtin;refine bR _ rfl _ _ 36 rfl w 101 3 24 (.agg #[oZ,oZ,oZ]) bj cM mF underlying36 KL rfl af _ l rfl (G.alloc _) wr 1 1 [(d,t,E)] rfl rfl (Rd.lit wr [d,t,E] _) ?c4 ?c5 ?c6 ?_)
   case c4=>have:=I.Y;simp;omega
   case c5=>have:=I.Y;simp;omega
   case c6=>simp;omega
   intro v2 K hown' Q _;have b6:=(G.alloc _).aW (aj R _) Q (by simp;omega) (aR _);have hsz':w.heap.size+1<K.heap.size:=by have:=Q.size;simp at this;omega
   have F:=(ag.alloc O _).grown Q (G.other O af);have J:=(ag.alloc P _).grown Q (G.other P af);have U:(l++[(d,t,E)]).length=k+1:=by have:=I.Y;simp;omega
   have X:=ae U;obtain⟨y,C,S,_⟩:=hown'.rd;rw[U]at S;subst S;clear U;have cO:K.cell? ⟨w.heap.size+1,4,none⟩=some v:=by rw[ag.cell J];rfl
   have OG:=J.free 4;have Y:=ae (F.b9 (p:=⟨w.heap.size+1,4,none⟩) aA (.slice y (k+1) C));have Z:Hid (ag (K.setCell ⟨w.heap.size+1,4,none⟩ (.slice y (k+1) C)) (w.heap.size+1) 38 #[r,q,s,(D==1),.slice y (k+1) C]):=ag.bp J 4 _;have BP:=ae (hown'.b9 J af 4 (.slice y (k+1) C));clear F J hown' Q;go_wp2;go_roundw;case rel =>
    have aq:Hid (l++[(d,t,E)]=(([j,m,o,b]:List Int).take (k+1)).map rT):=by rw[Hid,V.Y,eM HX.Y,List.map_append, <-M.Y];rfl
    have f:=b6.setCell (p:=⟨w.heap.size+1,4,none⟩) aA (.slice y (k+1) C);exact⟨k+1,_,_,aa,by go_num,Y,Z,BP,X,aq,f,by simp;omega⟩
   case measure=>simp[intOf];omega
  .have rz:k=n:=aa;subst rz;have H:l=Tu [a,j,m,o,b]:=by
    rw[V.Y];have e:X2 [a,j,m,o,b]=(k:Int):=B5.Y;unfold Tu;rw[e];rfl
   have Fp:jK [a,j,m,o,b]=(lK r q s (D==1) l b==[a,j,m,o,b]):=by
    unfold jK;rw[cg (p:=X2 [a,j,m,o,b]<=3) (by have e:X2 [a,j,m,o,b]=(k:Int):=B5.Y;rw[e];omega),
     cg (p:=([a,j,m,o,b]:List Int).getD 4 0<=4294967295) (by simpa using h4), <-H, <-A0, <-A7, <-A8, <-B2]
    simp
   obtain⟨L,A⟩:=av H Fp;clear H Fp V Gg Tv;have W:=λi=>ag.cell O i;have bz:=λi=>ag.free O i;have bE:=λi=>ag.cell P i;obtain⟨y,C,hv,(jC:Hid _)⟩:=G.rd;rw[I.Y]at hv;subst hv;clear b7;have CALL:=xV wr r q s (D==1) y C l b (by rw[I.Y];omega) jC;rw[I.Y]at CALL;have Dz:=ae CALL;clear CALL;have pD:w.heap.size<wr.heap.size:=aa;go_wp2_with fail;go_fit (Dz.mono λ_ _ h=>h.J);rintro e K ⟨⟨B,d,rfl,_,uT⟩,f⟩;obtain⟨g,F,J⟩:=aS (Oj K B (some u) d c (lK r q s (D==1) l b) [a,j,m,o,b] (KJ _ _ _ _ _ _) aA uT ((rB.below R).below f)) (O.ah f) (P.ah f);have cy:=λi=>ag.cell F.Y i;have cz:=λi=>ag.free F.Y i;have cD:=λi=>ag.cell J.Y i;have ct:=ae (jC.below f);have cw:w.heap.size<K.heap.size:=by have:=f.size;omega
   clear W bz bE uT;rcases T:(lK r q s (D==1) l b==[a,j,m,o,b])with _|_
   .rw[T]at g A;clear T;go_wp2_with fail;refine g.mono ?_;rintro e w' ⟨rfl,rfl⟩;go_wp2;refine bodyPost_ret (v:=?_) ?_ rfl ?_;rotate_left
    .obtain⟨k0,k1,k2,k3,k4⟩:=VS F.Y oZ oZ oZ false oN;simp[results,results149,go_sem,k0,k1,k2,k3,k4];rfl
    .exact z7.no A (OE (ah R f) (aR _) _ _ _ _ _)
   .rw[T]at g A;clear T;go_wp2_with fail;refine g.mono ?_;rintro e w' ⟨rfl,rfl⟩;go_wp2;refine bodyPost_ret (v:=?_) ?_ rfl ?_;rotate_left
    .obtain⟨k0,k1,k2,k3,k4⟩:=VS F.Y r q s (D==1) (.slice y k C);simp[results,results149,go_sem,k0,k1,k2,k3,k4];rfl
    .unfold z7 qK qA qV qD qC qP;simp only[A.Y,if_true];have e0:([a,j,m,o,b]:List Int).getD 0 0=a:=rfl;have e4:([a,j,m,o,b]:List Int).getD 4 0=b:=rfl;rw[e0,e4,A0.Y,A7.Y,A8.Y,B2.Y, <-L.Y];refine⟨⟨y,C,by rw[I.Y],?_,λu ha _=>by subst ha;exact(bk G rfl).1⟩,OE (ah R f) (aR _) _ _ _ _ _⟩;exact aaz (G.ah f) F.Y af _ _ _ _ _
theorem BU(A:Option Addr)(c:Nat)(l:List Int)(hl:l.length<=17592186044416)(W:l.length<=c)(j:∀z∈l,0<=z/\z<18446744073709551616)(o:bD w .u64 A l) :
 Calls prog 149 #[.slice A l.length c] w λe Y=>z7 l w e Y:=by
 by_cases r:l.length=5
 .match l,r with
  |[l0,l1,l2,l3,l4],_ =>
   obtain⟨R,rfl,a⟩:=o 0 (.int .u64 l0) rfl;obtain⟨_,h,i⟩:=o 4 (.int .u64 l4) rfl;injection h with h;subst h
   rw[add_zero]at a;rw[add_lit _ _ af]at i;have s:=bc a;have f:=j l0 aA;have g:=j l4 aA;obtain⟨H,X,I⟩:=aS (bD.tail o) o j;clear j;obtain⟨d,K,L,M,u⟩:∃d,bits BinOp.and IntKind.u64 l0 255=d/\0<=d/\d<=255/\l0%256=d:=⟨_,BK _ aa aa,aa,aa,rfl⟩
   obtain⟨b,N,O,P,x⟩:∃b,bits BinOp.and IntKind.u64 (l0/65536) 65535=b/\0<=b/\b<=65535/\l0/65536%65536=b:=⟨_,xP _ aa aa,aa,aa,rfl⟩
   obtain⟨k,y,Q,p⟩:∃k,l0/4294967296=k/\0<=k/\k<=4294967295:=⟨_,rfl,aa,aa⟩
   obtain⟨m,S,B⟩:∃m,bits BinOp.and IntKind.u64 (l0/4096) 1=m/\l0/4096%2=m:=⟨_,SY _ aa aa,rfl⟩
   obtain⟨n,T,Z,C⟩:∃n:Nat,bits BinOp.and IntKind.u64 (l0/256) 15=(n:Int)/\n<=15/\l0/256%16=(n:Int):=by refine⟨(l0/256%16).toNat,?_,aa,aa⟩;rw[Jd _ aa aa];omega
   obtain⟨D,E,F,G,t⟩:=bQ u x y B C;have q:0<=l4:=g.1;have J:0<=l0:=f.1;clear u x B C f g;by_cases h3:3<n
   .have hno:jK [l0,l1,l2,l3,l4]=false:=by
     exact Ge (by have:=t.Y;show 3<l0/256%16;omega)
    exact aaD
   by_cases U:4294967295<l4
   .have hno:jK [l0,l1,l2,l3,l4]=false:=by
     exact KH (by simpa using U)
    exact aaD
   exact z8 w R c l0 l1 l2 l3 l4 d b k m n W a i s H X K L M N O P y Q p S T aa q aa J I D E F G t
 .have V:((l.length:Int) !=5)=true:=by simp;omega
  have zw:=ae (KI r);clear r j;go_enter func149,ntmps149;go_wp2;refine bodyPost_ret (v:=?_) ?_ rfl ?_;rotate_left
  .simp[results,results149,go_sem];rfl
  .exact z7.no zw (aj (ai _) _)
end
end Go.Proofs.YtpfbfhfcbdbglaaGreat
