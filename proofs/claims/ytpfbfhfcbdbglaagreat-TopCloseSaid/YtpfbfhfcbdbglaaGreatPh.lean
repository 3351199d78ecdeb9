/- Walks and plain facts. No condition. -/
import Derived.Test.YtpfbfhfcbdbglaaGreatPg
namespace Go.Proofs.YtpfbfhfcbdbglaaGreat
open Go.RowKit Go.Proofs.Tryz Mo
set_option maxHeartbeats 8000000
set_option maxRecDepth 100000
set_option linter.all false
variable {w w' w1 a wr w2:World}{n base g m3 k c q i m1 m2 t d m dd r b j g3 n3 bl:Nat}{A A1 A2 A3 B D:Option Addr}{xs:List Mo.Wt}{hd dir bn sq:Int}{h:Mo.Hl}{v v3 vl vg vc:Value}{α:Type}{T t1 t2:TypeId}{tl v1 c1 v2:List Value}{x:Mo.Wt}{L:List Nat}{l:List Mo.Ch}{S:Nat->Prop}{G:List Acc}{C:List Int}{kp:Bool}{P:ux α}
section
variable(w:World)
theorem nk(n a b:Int):Calls prog 47 #[n,a,b] w λe w'=>e=.returned (iN n a b)/\w=w':=by go_enter func47,ntmps47;exact VJ
def JF(c:dG)(w:World)(e:Ending)(f:World):Prop:=∃r,e=.returned (.int .i64 r)/\(r=0↔aV c=true)/\Below w w f
theorem JF.no{c:dG}{w:World}(h:aV c=false)(f:Below w w w'):JF c w (.returned (.int .i64 1)) w':=⟨1,rfl,⟨λe=>absurd e af,λe=>by rw[h]at e;cases e⟩,f⟩
theorem JF.yes{c:dG}{w:World}(h:aV c=true)(e:Below w w w'):JF c w (.returned oZ) w':=⟨0,rfl,⟨λ_=>h,λ_=>rfl⟩,e⟩
theorem AZ{c:dG}(V:n=c.start.length)(W:bD w .i64 A c.start):Calls prog 22 #[.agg #[c.kind,c.threads,c.chans,c.cap,c.nodes,c.aP,c.aB,c.tags,c.bw,c.bn,.slice A n k]] w (JF c w):=by
 obtain⟨HB,Z,m⟩:=aS (aj (ai w) (dB c A n k)) (W.alloc (dB c A n k)) (λx a b=>nk (w.alloc (dB c A n k)) x a b);obtain⟨r,d⟩:∃b,b=iN c.threads 1 64:=⟨_,rfl⟩
 have p:=ae (m c.threads 1 64);rw[<-d]at p;obtain⟨G,f⟩:∃b,b=iN c.nodes 1 64:=⟨_,rfl⟩
 have D:=ae (m c.nodes 1 64);rw[<-f]at D;obtain⟨H,g⟩:∃b,b=iN c.aP 1 32:=⟨_,rfl⟩
 have t:=ae (m c.aP 1 32);rw[<-g]at t;obtain⟨S,C⟩:∃b,b=iN c.aB 0 4:=⟨_,rfl⟩
 have u:=ae (m c.aB 0 4);rw[<-C]at u;obtain⟨T,J⟩:∃b,b=iN c.tags 1 4294967295:=⟨_,rfl⟩
 have v:=ae (m c.tags 1 4294967295);rw[<-J]at v;obtain⟨U,K⟩:∃b,b=iN c.bw 1 1048575:=⟨_,rfl⟩
 have B:=ae (m c.bw 1 1048575);rw[<-K]at B;have HE:Hid (aV c=(r && G && H && S && T && U && nI c)):=by unfold Hid aV;rw[d,f,g,C,J,K]
 have E:=ae V;clear d f g C J K V W;go_enter func22,ntmps22;go_wp2_with fail;refine p.mono ?_;rintro e q ⟨rfl,rfl⟩;rcases r with _|_
 .exact Nr
 go_wp2_with fail;refine D.mono ?_;rintro e q ⟨rfl,rfl⟩;rcases G with _|_
 .exact Nr
 go_wp2_with fail;refine t.mono ?_;rintro e q ⟨rfl,rfl⟩;rcases H with _|_
 .exact Nr
 go_wp2_with fail;refine u.mono ?_;rintro e q ⟨rfl,rfl⟩;rcases S with _|_
 .exact Nr
 go_wp2_with fail;refine v.mono ?_;rintro e q ⟨rfl,rfl⟩;rcases T with _|_
 .exact Nr
 go_wp2_with fail;refine B.mono ?_;rintro e q ⟨rfl,rfl⟩;rcases U with _|_
 .exact Nr
 clear p D t u v B;by_cases s:c.kind=1\/c.kind=2
 .obtain⟨r,d⟩:∃b,b=iN c.cap 1 16:=⟨_,rfl⟩
  have p:=ae (m c.cap 1 16);rw[<-d]at p;replace HE:Hid (aV c=(r && c.chans==0 && c.bn==0 && decide (c.start.length=0))):=by unfold Hid;rw[HE.Y];unfold nI;rw[ay s,d];rfl
  clear d;rcases s with s|s
  all_goals
   have d1:(c.kind==1)=decide (c.kind=1):=rfl;rw[s]at d1;go_wp2_with fail;refine p.mono ?_;rintro e q ⟨rfl,rfl⟩;rcases r with _|_
   .exact Nr
   by_cases I:c.chans=0;rotate_left
   .have d2:(c.chans !=0)=true:=by simpa using I
    go_wp2;go_ret;exact JF.no (by rw[HE.Y];simp[I]) HB
   have d2:(c.chans !=0)=false:=by simpa using I
   by_cases o:c.bn=0;rotate_left
   .have d3:(c.bn !=0)=true:=by simpa using o
    go_wp2;go_ret;exact JF.no (by rw[HE.Y];simp[o]) HB
   have d3:(c.bn !=0)=false:=by simpa using o
   rcases n with _|n
   .go_wp2;go_ret;exact JF.yes (by rw[HE.Y, <-E.Y];simp[I,o]) HB
   .have d4:decide ((0:Int)<((n+1:Nat):Int))=true:=cg aa;go_wp2;go_ret;exact JF.no (by rw[HE.Y, <-E.Y];simp) HB
 have d1:(c.kind==1)=false:=by simp;omega
 have d2:(c.kind==2)=false:=by simp;omega
 by_cases o:c.kind=3;rotate_left
 .have d3:(c.kind !=3)=true:=by simpa using o
  replace HE:Hid (aV c=false):=by unfold Hid;rw[HE.Y];unfold nI;rw[au s,au o];simp
  clear s;go_wp2;go_ret;exact JF.no HE HB
 have d3:(c.kind !=3)=false:=by simpa using o
 obtain⟨r,d⟩:∃b,b=iN c.chans 1 8:=⟨_,rfl⟩
 have p:=ae (m c.chans 1 8);rw[<-d]at p;obtain⟨G,f⟩:∃b,b=iN c.cap 0 8:=⟨_,rfl⟩
 have D:=ae (m c.cap 0 8);rw[<-f]at D;obtain⟨H,g⟩:∃b,b=iN c.bn 1 4095:=⟨_,rfl⟩
 have t:=ae (m c.bn 1 4095);rw[<-g]at t;replace HE:Hid (aV c=(r && G && H && decide ((c.start.length:Int)<=c.chans) && c.start.all λn=>iN n 0 c.cap)):=by unfold Hid;rw[HE.Y];unfold nI;rw[au s,ay o,d,f,g];rfl
 have X:Hid (r=true->c.chans<=8):=by unfold Hid;rw[d];unfold iN;simp
 clear s o d f g;go_wp2_with fail;refine p.mono ?_;rintro e q ⟨rfl,rfl⟩;rcases r with _|_
 .exact Nr
 go_wp2_with fail;refine D.mono ?_;rintro e q ⟨rfl,rfl⟩;rcases G with _|_
 .exact Nr
 go_wp2_with fail;refine t.mono ?_;rintro e q ⟨rfl,rfl⟩;rcases H with _|_
 .exact Nr
 have aq:=X.Y (by first|rfl|trivial);clear X;by_cases h4:(n:Int)<=c.chans;rotate_left
 .have d4:decide (c.chans<(n:Int))=true:=cg aa;go_wp2;go_ret;exact JF.no (by rw[HE.Y,bF (show ¬((c.start.length:Int)<=c.chans)by rw[<-E.Y];omega)];simp) HB
 have d4:decide (c.chans<(n:Int))=false:=bF aa;have F:Hid (aV c=c.start.all λn=>iN n 0 c.cap):=by unfold Hid;rw[HE.Y, <-E.Y,cg h4];rfl
 have a6:n<=8:=aa;clear HE p D t;go_wp2;go_loopw[4,99] (λ_ i wr=>∃j:Nat,j<=n/\i=j/\wr=w.alloc (dB c A n k)/\Hid (∀(l:Nat) (y:Int),l<j->c.start[l]?=some y->(!iN y 0 c.cap)=false)) (λ_ i _=>n-(intOf i).toNat);case atStart=>exact⟨0,aZ _,rfl,rfl,λl _ h=>absurd h (Nat.not_lt_zero _)⟩
 case round =>
  obtain⟨j,hj,rfl,rfl,Q⟩:=hrel;by_cases M:j<n
  .obtain⟨ad,z,hA,(R:Hid _),hc⟩:=bD.at_ Z (i:=j) (by rw[<-E.Y];exact M);subst hA;have P:=ae (m z 0 c.cap);obtain⟨b,L⟩:=aw (iN z 0 c.cap);rw[<-L]at P;have O:=ae L;clear L;go_wp2_with fail;refine P.mono ?_;rintro e q ⟨rfl,rfl⟩;rcases b with _|_
   .go_wp2;go_ret;refine JF.no ?_ HB;rw[F.Y,List.all_eq_false];exact⟨z,cH R,by rw[<-O.Y];decide⟩
   .have Y:Hid ((!iN z 0 c.cap)=false):=by unfold Hid;rw[<-O.Y];rfl
    clear O;go_wp2;go_roundw;case rel=>exact⟨j+1,aa,by go_num,by first|rfl|trivial,qw R Q Y⟩
    case measure=>simp[intOf];omega
  .go_wp2;go_ret;refine JF.yes ?_ HB;rw[F.Y,List.all_eq_true];intro y hy;obtain⟨l,hl,N⟩:=List.mem_iff_getElem.1 hy;have h:=Q.Y l y (by have:=E.Y;omega) (by rw[cq hl,N]);simpa using h
theorem GC(h:Int):Calls prog 119 #[h] w λe w'=>e=.returned (.tuple #[.int .i64 (cJ h).1,.int .i64 (cJ h).2.1,.bool (cJ h).2.2])/\w=w':=by
 by_cases a:h<8\/32768<=h
 .have e:cJ h=(0,0,false):=ay a;rw[e];clear e;by_cases b:h<8
  .have d1:decide (h<8)=true:=cg b;exact Wp
  .have d1:decide (h<8)=false:=bF b;have d2:decide (32767<h)=true:=cg (by omega);exact Wp
 .have e:cJ h=(h%8,h/8,true):=au a;rw[e];have d1:decide (h<8)=false:=bF (by omega);have d2:decide (32767<h)=false:=bF (by omega);have c:IntKind.i64.wrap (h.tdiv 8)=h/8:=by rw[Int.tdiv_eq_ediv_of_nonneg (by omega)];exact bH _ (by omega)
  have d:IntKind.i64.wrap (h/8*8)=h/8*8:=bH _ (by omega);have f:IntKind.i64.wrap (h-h/8*8)=h%8:=by rw[bH _ (by omega)];omega
  clear e a;go_enter func119,ntmps119;go_wp2;go_ret3;exact⟨by simp[c,d,f],rfl⟩
theorem Ea(p g:Int):Calls prog 84 #[p,g] w λe w'=>e=.returned (jM p g)/\w=w':=by
 go_enter func84,ntmps84;go_wp2;all_goals go_ret
 all_goals refine⟨jO ?_,rfl⟩
 all_goals unfold jM
 all_goals first
  |(rw[ay (by omega)];done)
  |(rw[au (by omega)];done)
  |(rw[au (by omega)];omega)
theorem u7(b:Bool):Calls prog 49 #[b] w λe w'=>e=.returned (.int .u64 (Mo.flag b))/\w=w':=by
 cases b
 .go_enter func49,ntmps49;go_wp2;go_ret;exact⟨rfl,rfl⟩
 .go_enter func49,ntmps49;go_wp2;go_ret;exact⟨rfl,rfl⟩
theorem ei(n:Int):Calls prog 56 #[n] w λe w'=>e=.returned (.agg #[oZ,oZ,n,oZ])/\Below w w w':=by go_enter func56,ntmps56;go_wp2;exact bodyPost_ret (v:=.agg #[oZ,oZ,n,oZ]) (by simp[results,results56,go_sem]) rfl ⟨rfl,aj (ai w) _⟩
end
def cvT(xs:List Wt)(x y:Int):Int:=if eX xs x.toNat<eX xs y.toNat then -1 else if eX xs y.toNat<eX xs x.toNat then 1 else 0
def dD(l:List Nat):List Int:=l.map λ(i:Nat)=>(i:Int)
theorem Pu(f:Nat->Nat->Bool)(e:Int->Int->Bool)(h:∀a b:Nat,e a b=f a b)(x:Nat):∀l:List Nat,gJ e x (dD l)=dD (gJ f x l):=by
 intro l;induction l with
 |nil=>rfl
 |cons y l c=>show(if e x y=true then(y:Int)::gJ e x (dD l)else(x:Int)::(y:Int)::dD l)=dD (if f x y=true then y::gJ f x l else x::y::l);rw[h,c];split<;>rfl
theorem Lv(f:Nat->Nat->Bool)(e:Int->Int->Bool)(h:∀a b:Nat,e a b=f a b)(l:List Nat):eA e (dD l)=dD (eA f l):=by
 have d:∀(l c:List Nat),(dD l).foldl (λc x=>gJ e x c) (dD c)=dD (l.foldl (λc x=>gJ f x c) c):=by
  intro l;induction l with
  |nil=>intro c;rfl
  |cons x l g=>intro c;show(dD l).foldl _ (gJ e x (dD c))=_;rw[Pu f e h,g];rfl
 unfold eA;have:=d l [];unfold dD at this ⊢;rw[List.map_nil]at this;rw[this,List.map_reverse]
def yt(hd:Int)(k:Cs):Bool:=k.2.1==hd
def zD(xs:List Wt)(hd:Int)(k:Nat):List Nat:=(List.range k).filter λt=>(xs.getD t fU).on && (xs.getD t fU).cases.any (yt hd)
theorem yu(o:xs[k]?=some x):zD xs hd (k+1)=if(x.on && x.cases.any (yt hd))=true then zD xs hd k++[k]else zD xs hd k:=by
 have e:xs.getD k fU=x:=by rw[ew,o];rfl
 unfold zD;rw[List.range_succ,List.filter_append,List.filter_cons,e];rcases h:(x.on && x.cases.any (yt hd))with _|_
 .rw[au af,au af];simp
 .rw[ay rfl,ay rfl];rfl
theorem xu(xs:List Wt)(hd:Int)(k:Nat):(zD xs hd k).length<=k:=by have:=List.length_filter_le (λt=>(xs.getD t fU).on && (xs.getD t fU).cases.any (yt hd)) (List.range k);unfold zD;simpa using this
theorem JG(h:t∈zD xs hd k):t<k:=List.mem_range.1 (List.mem_filter.1 h).1
theorem Pv(xs:List Wt)(hd:Int):dD (mi xs hd)=eA (λa b=>decide (cvT xs a b<0)) (dD (zD xs hd xs.length)):=by
 rw[Lv (λa b=>decide (eX xs a<eX xs b)) _ (λa b=>?_)]
 .rfl
 .unfold cvT;rw[fR,fR];by_cases h:eX xs a<eX xs b
  .rw[ay h];simp[h]
  .rw[au h];split<;>simp[h]
def OnE(xs:List Wt)(hd:Int)(w:World)(e:Ending)(o:World):Prop:=∃A c,e=.returned (.slice A (mi xs hd).length c)/\aK o w 3 .i64 (.slice A (mi xs hd).length c) (dD (mi xs hd))/\Below w w o
section
variable(w:World)
theorem Pw(a:Nat)(hd:Int)(o:w.cell? ⟨a,0,none⟩=some (.int .i64 hd))(f:a<w.heap.size)(A:Option Addr)(m:Nat)(xs:List Cs)(n:Nat)(s:n=xs.length)(u:cN w bj A xs)(y:n<=100000) :
 Calls prog 283 #[.slice A n m,.func (.func 284) #[] #[.pointer (some ⟨a,0,none⟩)]] w (vW (xs.any (yt hd)) w):=by
 obtain⟨c,b⟩:=av (ym w 284 #[.pointer (some ⟨a,0,none⟩)] a 0 (.inr (.inl ⟨rfl,rfl⟩)) (yt hd) (λk h d=>Yu h a hd ((d.cell (p:=⟨a,0,none⟩) f).trans o) (ltW d f) k) A m xs n s u y) (ly (yt hd) xs)
 generalize il (yt hd) xs=r at c b
 clear s u o f
 go_enter func283,ntmps283
 go_wp2_with fail
 refine c.mono ?_
 rintro e i ⟨rfl,(g:Hid _)⟩
 go_wp2
 go_ret
 rw[b.Y]
 exact⟨rfl,g⟩
theorem TZ(f:Nat)(A:Option Addr)(n c:Nat)(I:w.cell? ⟨f,0,none⟩=some (.slice A n c))(_:f<w.heap.size)(a b:Nat)(u:Addr)(y:A=some u)(o s:Int)(F:a<n)(H:b<n)(z:w.cell? ⟨(u.add (a*4)).block,(u.add (a*4)).off+1,none⟩=some (.int .i64 o))(E:w.cell? ⟨(u.add (b*4)).block,(u.add (b*4)).off+1,none⟩=some (.int .i64 s)) :
 Calls prog 286 #[.int .i64 a,.int .i64 b,.pointer (some ⟨f,0,none⟩)] w λe w'=>e=.returned (.int .i64 (if o<s then -1 else if s<o then 1 else 0))/\iP w w':=by
 subst y
 have d:=ae (λg=>TX g o s)
 generalize(if o<s then(-1:Int)else if s<o then 1 else 0)=r at *
 have t1:(0:Int)<=(a:Int):=aa
 have t2:(0:Int)<=(b:Int):=aa
 have t3:(a:Int)<(n:Int):=aa
 have t4:(b:Int)<(n:Int):=aa
 go_enter func286,ntmps286
 go_wp2_with fail
 go_quiet((go_at_call 287;exact sw (d _)))
 go_wp2
 go_ret
 exact⟨rfl,_,rfl⟩
theorem Lx(A:Option Addr)(c:Nat)(f:Value):Calls prog 294 #[.slice A 0 c,.int .i64 0,.int .i64 0,f] w λe w'=>e=.returned (.tuple #[])/\w=w':=by go_enter func294,ntmps294;exact aaZ
theorem GD(A:Option Addr)(c:Nat)(f:Value):Calls prog 291 #[.slice A 0 c,.int .i64 0,f] w λe w'=>e=.returned (.tuple #[])/\w=w':=by
 go_enter func291,ntmps291;go_wp2;go_loopw[7,8] (λa b wr=>a=.int .i64 0/\b=.int .i64 20/\Hid (wr=w)) (λ_ _ _=>0);case atStart=>exact⟨rfl,rfl,rfl⟩
 case round =>
  obtain⟨rfl,rfl,g⟩:=hrel;have d:=g.Y;subst d;go_wp2_with fail;go_fit (Lx _ A c f);rintro e j ⟨rfl,rfl⟩;go_wp2;go_loopw[6] (λa i=>a=.int .i64 20/\Hid (i=wr)) (λ_ _=>0);case atStart=>exact⟨rfl,rfl⟩
  case round=>obtain⟨rfl,h⟩:=hrel;have d:=h.Y;subst d;go_wp2;go_end0;exact⟨rfl,rfl⟩
theorem Px(A:Option Addr)(c:Nat)(f:Value):Calls prog 285 #[.slice A 0 c,f] w λe w'=>e=.returned (.tuple #[])/\w=w':=by go_enter func285,ntmps285;go_wp2_with fail;go_fit (GD _ A c f);rintro e a ⟨rfl,rfl⟩;go_wp2;go_end0;exact⟨rfl,rfl⟩
theorem yw(l:List Nat)(k:Nat):dD (l++[k])=dD l++[(k:Int)]:=by unfold dD;simp
theorem dR(l:List Nat):(dD l).length=l.length:=by unfold dD;simp
theorem Py(A:Option Addr)(c:Nat)(xs:List Wt)(hn:n=xs.length)(hl:n<=19)(hr:ez w A xs)(hc:∀x∈xs,x.cases.length<=100000)(hd:Int) :
 Calls prog 276 #[.slice A n c,.int .i64 hd] w (OnE xs hd w):=by
 obtain⟨HN,HC,HR,qa⟩:=bh hn hc (λw' (G:Below w w w') (j:Nat) (x:Wt) h=>ez.row (hr.gK aI G) (j:=j) (x:=x) h) (λ(j:Nat) (x:Wt) (h:xs[j]?=some x)=>ez.row hr h)
 have bJ:Hid (Below w w ((w.alloc (.cells #[.slice A n c] 42)).alloc (.cells #[.int .i64 hd] 3))):=aj (aj (ai w) _) _
 have eW:Hid (ag ((w.alloc (.cells #[.slice A n c] 42)).alloc (.cells #[.int .i64 hd] 3)) w 42 #[.slice A n c]):=(ag.new _ _ _).alloc _
 have eZ:Hid (ag ((w.alloc (.cells #[.slice A n c] 42)).alloc (.cells #[.int .i64 hd] 3)) (w.heap.size+1) 3 #[.int .i64 hd]):=ag.newAt _ _ _ aA
 clear hn hr hc
 go_enter func276,ntmps276
 go_wp2
 go_loopw[5,10] (λv i wr=>∃(k:Nat) (B:Option Addr) (d:Nat),k<=n/\i=.int .i64 k/\v=.slice B (zD xs hd k).length d/\Hid (aK wr (w.heap.size+1+1) 3 .i64 (.slice B (zD xs hd k).length d) (dD (zD xs hd k)))/\Hid (Below w w wr)/\Hid (ag wr w 42 #[.slice A n c])/\Hid (ag wr (w.heap.size+1) 3 #[.int .i64 hd])) (λ_ i _=>n-(intOf i).toNat)
 case atStart=>exact⟨0,none,0,aZ _,rfl,rfl,aK.nil _ _ _ _,bJ,eW,eZ⟩
 case round =>
  obtain⟨k,B,d,hk,rfl,rfl,u,q,H,I⟩:=hrel;obtain⟨a7,-,cv⟩:=ag.aF H;by_cases b5:k<n
  .obtain⟨x,h⟩:∃x,xs[k]?=some x:=⟨_,cq (by rw[<-HN.Y];exact b5)⟩
   obtain⟨l,D,dd,hA,a8,pS,c0,c1,c2,c3⟩:=HR.Y wr q k x h;have HX:=ae h;have u9:x.cases.length<=100000:=HC.Y x (bo h);obtain⟨HF,W⟩:=av (yu (hd:=hd) h) (λ(wy:World) (G:Below wr wr wy)=>Pw wy (w.heap.size+1) hd ((G.cell (p:=⟨w.heap.size+1,0,none⟩) I.lt).trans (I.cell 0)) (ltW G I.lt) D dd x.cases _ rfl (pS.below G) u9);subst hA;clear h a8 pS;generalize x.cases.length=bl at W c3;clear u9;have X:=xu xs hd k;obtain⟨fl,YB⟩:=aw ((zD xs hd k).length);rw[<-YB]at u X ⊢;have s:=ae YB;clear YB;have b6:=q.size;rcases C:x.on with _|_
   .rw[C]at c0;have r:Hid (zD xs hd (k+1)=zD xs hd k):=by unfold Hid;rw[HF.Y,C];rfl
    clear C;go_wp2;go_roundw;case rel=>refine⟨k+1,B,d,aa,by go_num,by rw[r.Y,s.Y],?_,aj q _,H.alloc _,I.alloc _⟩;rw[r.Y, <-s.Y];exact aK.alloc u _
    case measure=>simp[intOf];omega
   .rw[C]at c0;rcases J:x.cases.any (yt hd)with _|_
    .rw[J]at W;have r:Hid (zD xs hd (k+1)=zD xs hd k):=by unfold Hid;rw[HF.Y,C,J];rfl
     clear C J;go_wp2_with fail;go_fit (W _ (aj (ai wr) _));rintro e w2 ⟨rfl,m⟩;have o:=ae (ah (aj (ai wr) (.cells #[.bool true,.int .i64 x.ak,.int .i64 x.seq,.slice D bl dd] 99)) m);clear m;go_wp2;go_roundw;case rel=>refine⟨k+1,B,d,aa,by go_num,by rw[r.Y,s.Y],?_,ah q o,H.ah o,I.ah o⟩;rw[r.Y, <-s.Y];exact aK.ah u o
     case measure=>simp[intOf];omega
    .rw[J]at W;have r:Hid (zD xs hd (k+1)=zD xs hd k++[k]):=by unfold Hid;rw[HF.Y,C,J];rfl
     clear C J;go_wp2_with fail;go_fit (W _ (aj (ai wr) _));rintro e w2 ⟨rfl,m⟩;have o:=ae (ah (aj (ai wr) (.cells #[.bool true,.int .i64 x.ak,.int .i64 x.seq,.slice D bl dd] 99)) m);clear m c0 c1 c2 c3 a7;have BO:=o.size;have eN:=ae (aK.ah u o);go_wp2_with(at_builtin;refine bS _ rfl _ _ 22 rfl (w.heap.size+1+1) 3 .i64 underlying22 dI _ (dD (zD xs hd k)) rfl (aK.alloc eN _) (some ⟨w2,0,none⟩) 1 1 [(k:Int)] rfl rfl (bD.one _ .i64 _ _) ?c4 ?c6 ?_)
     case c4=>rw[dR, <-s.Y];simp;omega
     case c6=>simp;omega
     intro v4 w4 Z Y b7;clear b7;rw[<-yw]at Z;obtain⟨A4,c4,V⟩:=Z.shape;rw[dR,fM,iw, <-s.Y]at V;subst V;have pT:=aK.alloc eN (.cells #[.int .i64 k] 3);have F:=(H.ah o).alloc (.cells #[.int .i64 k] 3);have S:=(I.ah o).alloc (.cells #[.int .i64 k] 3);have Q:=F.grown Y (ba pT F af);have T:=S.grown Y (λhe=>by have:=(bk pT he.symm).1;omega);have R:=aK.aW pT (aj (ah q o) (.cells #[.int .i64 k] 3)) Y (by simp;omega) (Nat.le_add_right w 2);obtain⟨j7,aq,Sa,fh⟩:=bh Z Q T R;clear Z Y pT F S Q T R;go_wp2;go_roundw;case rel =>
      refine⟨k+1,A4,c4,aa,by go_num,?_,?_,fh,aq,Sa⟩
      .rw[r.Y,fM,iw, <-s.Y]
      .rw[r.Y,fM,iw, <-s.Y];exact j7.Y
     case measure=>simp[intOf];omega
  .have rz:k=xs.length:=by have:=HN.Y;omega
   have f:=ae (Pv xs hd);rw[<-rz]at f;have X:=xu xs hd k;have M:=ae (λt ht=>JG (xs:=xs) (hd:=hd) (k:=k) (t:=t) ht);have E:Hid (k=n):=by unfold Hid;omega
   clear rz;generalize zD xs hd k=L at u f X M ⊢;rcases L with _|⟨z,L⟩
   .go_wp2_with fail;go_fit (Px _ B d _);rintro e w1 ⟨rfl,rfl⟩;go_wp2_with fail;have P:(mi xs hd).length=0:=by rw[<-dR,f.Y];rfl
    have h1:dD (mi xs hd)=[]:=f.Y;go_ret;refine⟨B,d,by rw[P];rfl,?_,q⟩;rw[P,h1];exact aK.bL u aa
   .obtain⟨g,c',hv,bz,nA⟩:=u.form (by unfold dD;simp);injection hv with e1 e2 e3
    subst e1 e3;clear e2;have hS:Lp wr wr (w.heap.size+1+1) g (L.length+1) d (dD (z::L)):=⟨u,λ_ _ _=>rfl,Below.refl _ _,aR _,bz,nA⟩
    have b6:=q.size;have N:Pn prog 286 w (cvT xs) (dD (z::L)) wr g:=by
     intro wx hw x y h hy;have O:∀x∈dD (z::L),∃a:Nat,x=a/\a<n/\∃l,A=some l/\wx.cell? ⟨(l.add (a*4)).block,(l.add (a*4)).off+1,none⟩=some (.int .i64 (eX xs a)):=by
      intro x h;obtain⟨a,ha,rfl⟩:=List.mem_map.1 h;have ct:=M.Y a ha;obtain⟨xa,T2⟩:∃xa,xs[a]?=some xa:=⟨_,cq (by have:=HN.Y;have:=E.Y;omega)⟩
      obtain⟨l,_,_,K,_,_,_,q1,_⟩:=qa.Y a _ T2;refine⟨a,rfl,by have:=E.Y;omega,l,K,?_⟩;have Lz:=bc q1;have pC:(l.add (a*4)).block<w.heap.size:=Lz;have ht:eX xs a=xa.ak:=by unfold eX;rw[ew,T2];rfl
      rw[ht, <-q1, <-q.Y.cell (p:=⟨(l.add (a*4)).block,(l.add (a*4)).off+1,none⟩) Lz];unfold World.cell?;dsimp only;rw[hw _ aa aa]
     obtain⟨a,rfl,ha,l,hA,ca⟩:=O x h;obtain⟨b,rfl,G,b8,K,cb⟩:=O y hy;rw[hA]at K;injection K with K
     subst K;have Ae:wx.cell? ⟨w,0,none⟩=some (.slice A n c):=by have:=H.cell 0;rw[<-show wr.cell? ⟨w,0,none⟩=some (.slice A n c)from this];unfold World.cell?;dsimp only;rw[hw _ H.Y.lt aa]
     have u9:w.heap.size<wx.heap.size:=by have:=bc Ae;exact this
     have:=TZ wx w A n c Ae u9 a b l hA (eX xs a) (eX xs b) ha G ca cb;unfold cvT;rw[fR,fR];exact this
    have a6:=ae (Pp wr w (cvT xs) (dD (z::L)) hS (by have:=E.Y;simp at X;omega) N);clear hS N;go_wp2_with fail;refine a6.mono ?_;rintro e w1 ⟨rfl,(HS:Hid _)⟩;go_wp2;go_ret;have P:(mi xs hd).length=(z::L).length:=by rw[<-dR,f.Y,jl,dR]
    have U:=HS.own;rw[<-f.Y]at U;refine⟨some ⟨g,0,none⟩,d,by rw[P];rfl,?_,q.trans (HS.ext.mono aa)⟩;rw[P];exact aK.bL U aa
end
def ie(x:Mo.Told):List Value:=[x.th,x.res.seq,x.res.cs,x.res.code,x.res.value]
theorem mL(x:Mo.Told):(ie x).length=5:=rfl
theorem rF(x:Mo.Told):∀u∈ie x,u.oneCell'=true:=by intro u a;simp[ie]at a;rcases a with rfl|rfl|rfl|rfl|rfl<;>rfl
def Pz(x:Ch)(w:World)(v:Value)(e:World):Prop:=∃B d,v=.agg #[x.gen,x.cap,x.used,x.closed,.slice B x.buf.length d]/\aK e w 3 .i64 (.slice B x.buf.length d) x.buf/\Below w w e
def qQ(g:r7)(n:Nat)(w:World)(e:Ending)(f:World):Prop:=∃B d A c D dd,e=.returned (.tuple #[.agg #[g.c.gen,g.c.cap,g.c.used,g.c.closed,.slice B g.c.buf.length d],.slice A n c,.agg #[g.r.seq,g.r.cs,g.r.code,g.r.value],.slice D g.told.length dd]) /\
 bD f .i64 B g.c.buf/\(∀b,B=some b->g.c.buf≠[]->Ty f 3 b.block)/\g.c.buf.length<=d/\j6 f w (.slice A n c) g.l/\cN f ie D g.told/\(∀b,D=some b->g.told≠[]->Ty f 188 b.block)/\g.told.length<=dd/\Below w w f
theorem pI{e:TypeId}{k:IntKind}{xs:List Int}{b:Addr}(h:aK w base e k (.slice (some b) n c) xs):Ty w e b.block:=by exact Wd
theorem kA{l:List Wt}(h:fS l dir hd k=some (t,i)):∃x,l[t]?=some x/\mh x dir hd=some i:=by
 induction k generalizing t i with
 |zero=>cases h
 |succ k a =>
  unfold fS at h;split at h
  .exact a h
  .rename_i x c;split at h
   .exact a h
   .rename_i e b;split at h
    .injection h with h;injection h with h1 h2;subst h1 h2;exact⟨x,c,b⟩
    .split at h
     .injection h with h;injection h with h1 h2;subst h1 h2;exact⟨x,c,b⟩
     .rename_i g f d _;injection h with h;injection h with h1 h2
      subst h1 h2;exact a d
theorem Cf(h:mh x dir hd=some i):x.on=true/\∃k,x.cases[i]?=some k/\k.1=dir/\k.2.1=hd:=by
 unfold mh at h;split at h
 .rename_i c;rw[List.findIdx?_eq_some_iff_getElem]at h;obtain⟨a,b,_⟩:=h;refine⟨c,_,cq a,?_⟩;simpa using b
 .cases h
section
variable(w:World)
theorem mM(x:Ch)(B:Option Addr)(f d:Nat)(o:f=x.buf.length)(Q:f<=100000)(s:bD w .i64 B x.buf) :
 Calls prog 257 #[.agg #[x.gen,x.cap,x.used,x.closed,.slice B f d]] w λe w'=>∃v,e=.returned v/\Pz x w v w':=by
 obtain⟨K,P⟩:=av (λq (J:Below w w q)=>mG q B d x.buf o aa (s.below J)) o
 unfold Pz
 rw[<-o]
 clear o s
 have h:Hid (Below w w ((w.alloc (oW x B f d)).alloc rp)):=aj (aj (ai w) _) _
 have F:Hid (ag ((w.alloc (oW x B f d)).alloc rp) w 50 #[x.gen,x.cap,x.used,x.closed,.slice B f d]):=(ag.new _ _ _).alloc _
 have G:Hid (ag ((w.alloc (oW x B f d)).alloc rp) (w.heap.size+1) 50 #[oZ,oZ,false,false,oN]):=(ag.newAt _ _ _ aA)
 go_enter func257,ntmps257
 go_wp2_with fail
 go_fit (K _ h)
 rintro e n ⟨a,d1,rfl,r,l,c⟩
 obtain⟨u,g,j,L⟩:=bh (ah h c) (F.ah c) (G.ah c) (aK.bL l h.size)
 clear l c r
 obtain⟨y,k,-⟩:=ag.aF g
 have E:=ag.lt g
 obtain⟨t,z,-⟩:=ag.aF j
 have A:=ag.lt j
 go_wp2_with fail
 have H:=g.bp 4 (.slice a f d1)
 have m:=j.b9 (p:=⟨w,4,none⟩) (by show w.heap.size+1≠w;omega) (.slice a f d1)
 have N:aK _ w 3 .i64 (.slice a f d1) x.buf:=bu L g af 4 (.slice a f d1)
 have O:=u.setCell (p:=⟨w,4,none⟩) (aR _) (.slice a f d1)
 have I:=iK m x.gen x.cap x.used x.closed (.slice a f d1)
 have M:=λi=>ag.cell I i
 have C:aK _ w 3 .i64 (.slice a f d1) x.buf:=dV N m af x.gen x.cap x.used x.closed (.slice a f d1)
 have D:=fx O (b:=w.heap.size+1) (bM _) x.gen x.cap x.used x.closed (.slice a f d1)
 change bodyPost _ _ _ _ _ (iz (n.setCell ⟨w,4,none⟩ (.slice a f d1)) (w.heap.size+1) x.gen x.cap x.used x.closed (.slice a f d1))
 generalize iz (n.setCell ⟨w,4,none⟩ (.slice a f d1)) (w.heap.size+1) x.gen x.cap x.used x.closed (.slice a f d1)=R at *
 clear y k E t z A
 refine bodyPost_ret (v:=.agg #[x.gen,x.cap,x.used,x.closed,.slice a f d1]) ?_ rfl ?_
 .simp[results,results257,go_sem,M]
 .exact⟨_,rfl,a,d1,rfl,C,D⟩
theorem vd(A:Option Addr)(c:Nat)(xs:List Wt)(u:n=xs.length)(y:ez w A xs)(f:xs[t]?=some x)(s co o:Int) :
 Calls prog 282 #[.slice A n c,t,s,co,o] w λe w'=>e=.returned (.agg #[t,x.seq,s,co,o])/\Below w w w':=by
 obtain⟨j,B,d,h,_,_,a,b,k,g⟩:=ez.row (y.gK aI (aj (ai w) (.cells #[oZ,oZ,oZ,oZ,oZ] 188))) f
 have i:t<n:=by rw[u];exact bT f
 subst h
 clear u y f a b g
 go_enter func282,ntmps282
 go_wp2
 refine bodyPost_ret (v:=.agg #[t,x.seq,s,co,o]) ?_ rfl ?_
 .simp[results,results282,go_sem]
 .exact⟨rfl,aj (ai w) _⟩
theorem mN{T W:Int}{e:Bool}(h:jy xs dir hd xs.length T W e):e=(dt xs dir hd).isSome:=h.1
theorem yx(x:Ch)(B:Option Addr)(p d:Nat)(s:p=x.buf.length)(E:x.used=true)(A:Option Addr)(c:Nat)(f:List Wt)(y:n=f.length)(F:n<=100000)(z:ez w A f)(u:∀x∈f,x.cases.length<=100000)(o:Int) :
 Calls prog 270 #[.agg #[x.gen,x.cap,x.used,x.closed,.slice B p d],o,.slice A n c,.int .i64 1] w λe w'=>e=.returned (cX x o f 1)/\Below w w w':=by
 have g:=ae (λb (i:Below w w b)=>kZ b A c f y F (z.gK aI i) u 2 o)
 have HR:Hid (cX x o f 1=(x.closed || (dt f 2 o).isSome || decide ((p:Int)<x.cap))):=by unfold Hid cX;rw[E,s];simp
 have a:Hid (Below w w (w.alloc (oW x B p d))):=aj (ai w) _
 have h:Hid (ag (w.alloc (oW x B p d)) w 50 #[x.gen,x.cap,x.used,x.closed,.slice B p d]):=ag.new _ _ _
 generalize cX x o f 1=r at *
 clear s y z u
 obtain⟨l,k,m,cl,j⟩:=x
 dsimp only at *
 subst E
 go_enter func270,ntmps270
 go_wp2_with fail
 go_fit (g _ a)
 rintro e q ⟨T,W,ok,rfl,hf,hb1⟩
 obtain⟨br,eZ⟩:=av (ah a hb1) (h.ah hb1)
 have Ba:Hid (ok=(dt f 2 o).isSome):=mN hf
 exact YC
theorem yz(x:Ch)(B:Option Addr)(p d:Nat)(s:p=x.buf.length)(E:x.used=true)(A:Option Addr)(c:Nat)(f:List Wt)(y:n=f.length)(F:n<=100000)(z:ez w A f)(u:∀x∈f,x.cases.length<=100000)(o:Int) :
 Calls prog 270 #[.agg #[x.gen,x.cap,x.used,x.closed,.slice B p d],o,.slice A n c,.int .i64 2] w λe w'=>e=.returned (cX x o f 2)/\Below w w w':=by
 have g:=ae (λb (i:Below w w b)=>kZ b A c f y F (z.gK aI i) u 1 o)
 have HR:Hid (cX x o f 2=(x.closed || (dt f 1 o).isSome || decide ((0:Int)<p))):=by unfold Hid cX;rw[E,s];simp
 have a:Hid (Below w w (w.alloc (oW x B p d))):=aj (ai w) _
 have h:Hid (ag (w.alloc (oW x B p d)) w 50 #[x.gen,x.cap,x.used,x.closed,.slice B p d]):=ag.new _ _ _
 generalize cX x o f 2=r at *
 clear s y z u
 obtain⟨l,k,m,cl,j⟩:=x
 dsimp only at *
 subst E
 go_enter func270,ntmps270
 go_wp2_with fail
 go_fit (g _ a)
 rintro e q ⟨T,W,ok,rfl,hf,hb1⟩
 obtain⟨br,eZ⟩:=av (ah a hb1) (h.ah hb1)
 have Ba:Hid (ok=(dt f 1 o).isSome):=mN hf
 exact YC
end
theorem qQ.mk'{g:r7}{o:Nat}(s:bl=g.c.buf.length)(u:o=g.told.length)(e:aK w' w 3 .i64 (.slice B bl d) g.c.buf)(E:j6 w' w (.slice A n c) g.l)(z:cN w' ie D g.told)(f:∀b,D=some b->g.told≠[]->Ty w' 188 b.block)(F:g.told.length<=dd)(y:Below w w w') :
 qQ g n w (.returned (.tuple #[.agg #[g.c.gen,g.c.cap,g.c.used,g.c.closed,.slice B bl d],.slice A n c,.agg #[g.r.seq,g.r.cs,g.r.code,g.r.value],.slice D o dd])) w':=by
 subst s u
 exact⟨B,d,A,c,D,dd,rfl,e.pw.2,λb a _=>by subst a;exact pI e,e.cap.2,E,z,f,F,y⟩
theorem ua{e:TypeId}{xs:List Value}(h:w.ownsRow base e m v n xs)(o:∀b,v.ownBlock=some b->w'.heap[b]?=w.heap[b]?):w'.ownsRow base e m v n xs:=by
 obtain⟨i,d⟩:=h;refine⟨i,?_⟩;rcases d with d|⟨f,a,c,g,j,k,r⟩
 .exact .inl d
 .exact .inr ⟨f,a,c,g,j,by rw[o f (by rw[g];rfl)];exact k,r⟩
structure o7 (w w':World) (q r:Nat) (t1 t2:TypeId):Prop where
 hq:∃ys,ag w q t1 ys
 hr:∃ys,ag w r t2 ys
 rest:∀b,b≠q->b≠r->w'.heap[b]?=w.heap[b]?
 size:w'.heap.size=w.heap.size
theorem o7.mk'{f:List Value}(o:ag w q t1 c1.toArray)(s:ag w r t2 f.toArray)(e:q≠r)(u:c1.length=v1.length)(y:f.length=v2.length) :
 o7 w (ax (ax w q 0 v1) r 0 v2) q r t1 t2/\ag (ax (ax w q 0 v1) r 0 v2) q t1 v1.toArray/\ag (ax (ax w q 0 v1) r 0 v2) r t2 v2.toArray :=
 ⟨⟨⟨_,o⟩,⟨_,s⟩,λb hq hr=>(aM hr v2 0).trans (aM hq v1 0),by rw[bO,bO]⟩,aX (aY o u) e v2 0,aY (aX s (λh=>e h.symm) v1 0) y⟩
theorem o7.own(T:o7 w w' q r t1 t2){e:TypeId}{xs:List Value}(h:w.ownsRow base e m v n xs)(h1:e≠t1)(h2:e≠t2):w'.ownsRow base e m v n xs:=by obtain⟨ys,hq⟩:=T.hq;obtain⟨d,hr⟩:=T.hr;exact ua h λb c=>T.rest b (λa=>ba h hq h1 (by rw[c,a])) (λa=>ba h hr h2 (by rw[c,a]))
theorem o7.ty(T:o7 w w' q r t1 t2){e:TypeId}(h:Ty w e b)(f:e≠t1)(p:e≠t2):Ty w' e b/\w'.heap[b]?=w.heap[b]?:=by obtain⟨ys,hq⟩:=T.hq;obtain⟨i,hr⟩:=T.hr;obtain⟨g,d,h⟩:=h;unfold ag at hq hr;have c:w'.heap[b]?=w.heap[b]?:=T.rest b (λa=>by subst a;rw[hq]at h;injection h with h;injection h with _ h;exact f h.symm) (λa=>by subst a;rw[hr]at h;injection h with h;injection h with _ h;exact p h.symm);exact⟨⟨g,d,c.trans h⟩,c⟩
theorem o7.gK(T:o7 w w' q r t1 t2)(e:t1≠3/\t1≠101)(o:t2≠3/\t2≠101)(h:eP w b):eP w' b/\w'.heap[b]?=w.heap[b]?:=by
 rcases h with h|h
 .obtain⟨a,b⟩:=T.ty h e.1.symm o.1.symm;exact⟨.inl a,b⟩
 .obtain⟨a,b⟩:=T.ty h e.2.symm o.2.symm;exact⟨.inr a,b⟩
theorem o7.qR{e:TypeId}{xs:List α}(f:Good P)(T:o7 w w' q r t1 t2)(h:aD e m P w base (eP w) v xs)(u:e≠t1)(y:e≠t2)(o:t1≠3/\t1≠101)(s:t2≠3/\t2≠101):aD e m P w' base (eP w') v xs:=by obtain⟨ys,hq⟩:=T.hq;obtain⟨i,hr⟩:=T.hr;exact(h.move f (λb a=>(T.gK o s a).2) (λg d=>T.rest g (λc=>h.other hq u g d c) (λc=>h.other hr y g d c))).mono f (λb a=>(T.gK o s a).1)
theorem o7.below(_:o7 w w' q r t1 t2){B:Nat}(e:w'=ax (ax w q 0 v1) r 0 v2)(h:Below B a w)(hq:B<=q)(hr:B<=r):Below B a w':=by rw[e];exact az hr _ _ _ (az hq _ _ _ h)
theorem PA(w:World)(x:Ch)(B:Option Addr)(f d:Nat)(H:f=x.buf.length)(LA:f<=90000)(a6:bD w .i64 B x.buf)(A:Option Addr)(c:Nat)(s:List Wt)(U:n=s.length)(hl:n<=90000)(V:ez w A s)(hc:∀x∈s,x.cases.length<=90000)(K:Int)(o:Int) :
 Calls prog 289 #[.agg #[x.gen,x.cap,x.used,x.closed,.slice B f d],K,.slice A n c,o] w (qQ (mP x K s o) n w):=by
 obtain⟨n9,mf,lC,Sb,bz,DR⟩:=cS (λl (h:Below w w l)=>mM l x B f d H (by omega) (a6.below h)) (λl (h:Below w w l)=>kZ l A c s U (by omega) (V.gK aI h) (λx F=>bm (hc x F) (by omega)) 2 K) (λl (h:Below w w l)=>jo l A c s U (by omega) (V.gK aI h) (λx F=>bm (hc x F) (by omega))) (λl (h:Below w w l) (j:Nat) (x:Wt) F jq=>tW l A c s U (by omega) (V.gK aI h) (λx F=>bm (hc x F) (by omega)) (j:=j) (x:=x) F jq) (λl (h:Below w w l) (t:Nat) (x:Wt) F (wh co o:Int)=>vd l A c s U (V.gK aI h) (t:=t) (x:=x) F wh co o) (λl (h:Below w w l) (t:Nat) (x:Wt) F=>ez.row (V.gK aI h) (j:=t) (x:=x) F)
 obtain⟨fW,HN⟩:=av H U
 unfold Pz at n9
 rw[<-H]at n9
 clear H a6 U V hc
 have bJ:Hid (Below w w (((w.alloc (oW x B f d)).alloc rp).alloc ke)):=aj (aj (aj (ai w) _) _) _
 have gC:Hid (ag (((w.alloc (oW x B f d)).alloc rp).alloc ke) (w.heap.size+1) 50 #[oZ,oZ,false,false,oN]):=(ag.newAt _ _ _ (by simp)).alloc _
 have ig:Hid (ag (((w.alloc (oW x B f d)).alloc rp).alloc ke) (w.heap.size+1+1) 64 #[oZ,oZ,oZ,oZ]):=(ag.newAt _ _ _ (by simp))
 go_enter func289,ntmps289
 go_wp2_with fail
 (with_reducible go_fit (n9.Y _ bJ.Y))
 rintro e G ⟨v,rfl,k,d1,rfl,fe,E⟩
 have Nk:=gC.Y.ah E
 have Lz:=ig.Y.lt
 have DS:w.heap.size+1+1<G.heap.size:=(ig.Y.ah E).lt
 obtain⟨br,gD,ik,iU,eZ⟩:=bQ (aj (ah bJ.Y E) (oW x k f d1)) (Nk.alloc (oW x k f d1)) ((ig.Y.ah E).alloc (oW x k f d1)) (aK.alloc (aK.bL fe bJ.Y.size) (oW x k f d1)) (ag.new G 50 #[x.gen,x.cap,x.used,x.closed,.slice k f d1])
 clear fe E Nk gC ig bJ n9 Lz
 go_wp2_with fail
 (with_reducible go_fit (mf.Y _ br.Y))
 rintro e w2 ⟨T,W,ok,rfl,(HF:Hid _),D⟩
 obtain⟨L,gO,jw,P,Y⟩:=bQ (ah br.Y D) (gD.Y.ah D) (ik.Y.ah D) (eZ.Y.ah D) (aK.ah iU.Y D)
 clear D mf gD ik br eZ iU
 rcases ok with _|_
 .have HG:Hid (mP x K s o=⟨{x with buf:=x.buf++[o]},s,cE,[]⟩):=by
   have:dt s 2 K=none:=by
    have:=HF.Y.1;cases hh:fS s 2 K s.length with
    |none=>exact hh
    |some p=>rw[hh]at this;cases this
   unfold Hid mP;rw[this]
  obtain⟨cU,b7,-⟩:=ag.aF P.Y
  have eB:=ag.lt P.Y
  go_wp2_with(at_builtin;refine bS _ rfl _ _ 22 rfl w 3 .i64 underlying22 dI _ x.buf rfl (aK.alloc Y.Y _) w2 1 1 [o] rfl rfl (bD.one _ .i64 _ _) ?c4 ?c6 ?_)
  case c4=>rw[<-fW.Y];simp;omega
  case c6=>have:=L.Y.size;simp;omega
  intro v4 u dm X ct
  clear ct
  obtain⟨z,C,a7⟩:=dm.shape
  rw[fM,iw, <-fW.Y]at a7
  subst a7
  have pT:=aK.alloc Y.Y (.cells #[o] 3)
  have M:=P.Y.alloc (.cells #[o] 3)
  have uD:=gO.Y.alloc (.cells #[o] 3)
  have N:=jw.Y.alloc (.cells #[o] 3)
  have q:=M.grown X (ba pT M (by decide))
  have Q:=uD.grown X (ba pT uD (by decide))
  have r:=N.grown X (ba pT N (by decide))
  have a:=aK.aW pT (aj L.Y (.cells #[o] 3)) X (by have:=L.Y.size;simp;omega) (aR _)
  obtain⟨DX,DY,PC⟩:=ag.aF q
  obtain⟨rG,ku,kG,fh,j7⟩:=bQ q Q r a dm
  clear dm X pT M uD N q Q r a cU b7 eB
  go_wp2_with fail
  have sJ:=rG.Y.bp 4 (.slice z (f+1) C)
  have Eb:=ku.Y.b9 (p:=⟨G,4,none⟩) (by show w.heap.size+1≠G;omega) (.slice z (f+1) C)
  have R7:=kG.Y.b9 (p:=⟨G,4,none⟩) (by show w.heap.size+1+1≠G;omega) (.slice z (f+1) C)
  have Fq:aK _ w 3 .i64 (.slice z (f+1) C) (x.buf++[o]):=bu j7.Y rG.Y (by decide) 4 (.slice z (f+1) C)
  have dJ:=fh.Y.setCell (p:=⟨G,4,none⟩) (by show w.heap.size<=G.heap.size;omega) (.slice z (f+1) C)
  generalize CZ:u.setCell ⟨G,4,none⟩ (.slice z (f+1) C)=w5 at *
  have iq:=ae dJ.drew;have lz:Hid (ag w5.drew _ _ _):=Eb;have iA:Hid (ag w5.drew _ _ _):=R7;have qT:Hid (ag w5.drew _ _ _):=sJ;have pR:=ae (aK.ah Fq (ai w5).drew)
  have GF:=λi=>ag.cell sJ i
  have PD:=ag.lt sJ
  clear CZ sJ Eb R7 Fq dJ DX DY PC rG ku kG fh j7 P gO jw L Y
  go_region_law(first
   |(go_simp;go_at_call 256;(with_reducible go_fit (lC.Y _ iq.Y));rintro e w6 ⟨v,rfl,A6,c6,rfl,TA,Z⟩;have LB:=qT.Y.ah Z;have JI:=lz.Y.ah Z;have Fx:=iA.Y.ah Z;have PE:=λi=>ag.cell LB i;have LC:=λi=>ag.cell JI i;have PF:=λi=>ag.free JI i;have YD:=λi=>ag.cell Fx i;have YE:=λi=>ag.free Fx i;have PG:=LB.lt;have PH:=JI.lt;have YF:=Fx.lt;go_wp2_with fail))
  all_goals
   go_wp2_with fail;have YG:=ah iq.Y Z;have Ah:=aK.ah pR.Y Z;have b5:=TA.bL (base':=w.heap.size) iq.Y.size;clear PE LC PF YD YE PG PH YF GF PD;obtain⟨J,iB,S⟩:=o7.mk' (v1:=[x.gen,x.cap,x.used,x.closed,.slice z (f+1) C]) (v2:=[oZ,oZ,oZ,oZ]) JI Fx (by omega) rfl rfl;have vY:=J.own Ah (by decide) (by decide);have LD:=J.qR aI b5 (by decide) (by decide) (by decide) (by decide);have kN:=J.below rfl YG (by omega) (by omega);change bodyPost _ _ _ _ _ (ax (ax w6 (w.heap.size+1) 0 [x.gen,x.cap,x.used,x.closed,.slice z (f+1) C]) (w.heap.size+1+1) 0 [oZ,oZ,oZ,oZ]);generalize ax (ax w6 (w.heap.size+1) 0 [x.gen,x.cap,x.used,x.closed,.slice z (f+1) C]) (w.heap.size+1+1) 0 [oZ,oZ,oZ,oZ]=wz at *;have pJ:=λi=>ag.cell iB i;have sK:=λi=>ag.cell S i;refine bodyPost_ret (v:=.tuple #[.agg #[x.gen,x.cap,x.used,x.closed,.slice z (f+1) C],.slice A6 n c6,.agg #[oZ,oZ,oZ,oZ],oN]) ?_ rfl ?_
   .simp[results,results289,go_sem,pJ,sK]
   .rw[HG.Y];exact qQ.mk' (w:=w) (g:=⟨{x with buf:=x.buf++[o]},s,cE,[]⟩) (by have:=fW.Y;simp;omega) (rfl) vY LD (Rd.nil _ _) (λb h=>by cases h) (aR _) kN
 .obtain⟨⟨t,i⟩,I⟩:=Option.isSome_iff_exists.1 HF.Y.1.symm;obtain⟨hT,hW,_⟩:=HF.Y.2 t i I;obtain⟨y,hy,a8⟩:=kA I;have jq:=(Cf a8).1;have HG:Hid (mP x K s o=⟨x,et s t,cE,[⟨t,⟨y.seq,i,0,o⟩⟩]⟩):=by
   have h1:dt s 2 K=some (t,i):=I;have h2:(s.getD t fU).seq=y.seq:=by rw[ew,hy];rfl
   unfold Hid mP;rw[h1];dsimp only;unfold mO;rw[h2]
  subst hT hW;obtain⟨HE,HY,Fy⟩:=aS (bz.Y w2 L.Y t y hy i 0 o) hy jq;clear I hy a8 jq;go_wp2_with fail;(with_reducible go_fit HE.Y);rintro e w3 ⟨rfl,m⟩;obtain⟨bU,iG,gN,mq,j5,vZ⟩:=cS (aj (ah L.Y m) (.cells #[t,y.seq,i,oZ,o] 188)) ((gO.Y.ah m).alloc (.cells #[t,y.seq,i,oZ,o] 188)) ((jw.Y.ah m).alloc (.cells #[t,y.seq,i,oZ,o] 188)) ((P.Y.ah m).alloc (.cells #[t,y.seq,i,oZ,o] 188)) (aK.alloc (aK.ah Y.Y m) (.cells #[t,y.seq,i,oZ,o] 188)) (ag.new w3 188 #[t,y.seq,i,oZ,o]);have Ok:G.heap.size<w3.heap.size:=(P.Y.ah m).lt;clear m;have HC:=ae (Sb.Y _ bU.Y t y HY.Y Fy.Y);go_wp2_with fail;(with_reducible go_fit HC.Y);rintro e u ⟨v,rfl,z,C,rfl,Jr,a⟩;have Q:=iG.Y.ah a;have r:=gN.Y.ah a;have q:=mq.Y.ah a;have O:=vZ.Y.ah a;obtain⟨fh,j7,Ci⟩:=aS (ah bU.Y a) (aK.ah j5.Y a) (Jr.bL (base':=w.heap.size) bU.Y.size);obtain⟨bN,cj,-⟩:=ag.aF Q;have cu:=ag.lt Q;obtain⟨gB,nQ,-⟩:=ag.aF r;have b8:=ag.lt r;have cU:=λi=>ag.cell q i;have eB:=ag.lt q;have Wr:=λi=>ag.cell O i;have wY:=ag.lt O;obtain⟨ku,kG⟩:=av Q r;clear Q r q O Jr a bU iG gN mq j5 vZ L gO jw P Y HE HC;go_wp2;go_region;all_goals
   go_wp2_with fail;clear bN cj cu gB nQ b8 cU eB Wr wY;obtain⟨J,iB,S⟩:=o7.mk' (v1:=[x.gen,x.cap,x.used,x.closed,.slice k f d1]) (v2:=[oZ,oZ,oZ,oZ]) ku.Y kG.Y (by omega) rfl rfl;have R:Below _ (ax (ax u (w.heap.size+1) 0 [x.gen,x.cap,x.used,x.closed,.slice k f d1]) (w.heap.size+1+1) 0 [oZ,oZ,oZ,oZ]) (((ax (ax u (w.heap.size+1) 0 [x.gen,x.cap,x.used,x.closed,.slice k f d1]) (w.heap.size+1+1) 0 [oZ,oZ,oZ,oZ]).alloc (.cells #[t,y.seq,i,oZ,o] 188)).drew):=(aj (ai (ax (ax u (w.heap.size+1) 0 [x.gen,x.cap,x.used,x.closed,.slice k f d1]) (w.heap.size+1+1) 0 [oZ,oZ,oZ,oZ])) (.cells #[t,y.seq,i,oZ,o] 188)).drew;have vY:=aK.ah (J.own j7.Y (by decide) (by decide)) R;have LD:=(J.qR aI Ci.Y (by decide) (by decide) (by decide) (by decide)).gK aI R;have kN:=ah (J.below rfl fh.Y (by omega) (by omega)) R;have iB:=iB.ah R;have S:=S.ah R;have yA:Rd ((ax (ax u (w.heap.size+1) 0 [x.gen,x.cap,x.used,x.closed,.slice k f d1]) (w.heap.size+1+1) 0 [oZ,oZ,oZ,oZ]).alloc (.cells #[t,y.seq,i,oZ,o] 188)) u [t,y.seq,i,oZ,o]:=Rd.Dm (ax (ax u (w.heap.size+1) 0 [x.gen,x.cap,x.used,x.closed,.slice k f d1]) (w.heap.size+1+1) 0 [oZ,oZ,oZ,oZ]) [t,y.seq,i,oZ,o] 188 (by rw[bO,bO]);have YH:=yA.below (ai _).drew;have aq:Ty ((ax (ax u (w.heap.size+1) 0 [x.gen,x.cap,x.used,x.closed,.slice k f d1]) (w.heap.size+1+1) 0 [oZ,oZ,oZ,oZ]).alloc (.cells #[t,y.seq,i,oZ,o] 188)) 188 u:=⟨_,_,ag.newAt (ax (ax u (w.heap.size+1) 0 [x.gen,x.cap,x.used,x.closed,.slice k f d1]) (w.heap.size+1+1) 0 [oZ,oZ,oZ,oZ]) 188 #[t,y.seq,i,oZ,o] (by rw[bO,bO])⟩
   have b6:=aq.below (ai _).drew;clear yA aq;change bodyPost _ _ _ _ _ (((ax (ax u (w.heap.size+1) 0 [x.gen,x.cap,x.used,x.closed,.slice k f d1]) (w.heap.size+1+1) 0 [oZ,oZ,oZ,oZ]).alloc (.cells #[t,y.seq,i,oZ,o] 188)).drew);clear R J;generalize((ax (ax u (w.heap.size+1) 0 [x.gen,x.cap,x.used,x.closed,.slice k f d1]) (w.heap.size+1+1) 0 [oZ,oZ,oZ,oZ]).alloc (.cells #[t,y.seq,i,oZ,o] 188)).drew=wz at *;have pJ:=λi=>ag.cell iB i;have sK:=λi=>ag.cell S i;refine bodyPost_ret (v:=.tuple #[.agg #[x.gen,x.cap,x.used,x.closed,.slice k f d1],.slice z n C,.agg #[oZ,oZ,oZ,oZ],.slice u 1 1]) ?_ rfl ?_
   .simp[results,results289,go_sem,pJ,sK]
   .rw[HG.Y];exact qQ.mk' (w:=w) (g:=⟨x,et s t,cE,[⟨t,⟨y.seq,i,0,o⟩⟩]⟩) (fW.Y) rfl vY LD YH (λb h _=>by injection h with h;subst h;exact b6) (aR _) kN
theorem oK(A:Option Addr)(c m:Nat):kS A c m 1=nO A c m:=by unfold kS nO;rw[Nat.mul_one]
theorem PI(w:World)(x:Ch)(B:Option Addr)(f d:Nat)(R:f=x.buf.length)(LA:f<=90000)(dh:bD w .i64 B x.buf)(A:Option Addr)(c:Nat)(u:List Wt)(hn:n=u.length)(hl:n<=90000)(hr:ez w A u)(hc:∀x∈u,x.cases.length<=90000)(U:Int)(uz:x.buf≠[]\/(dt u 1 U).isSome=true) :
 Calls prog 290 #[.agg #[x.gen,x.cap,x.used,x.closed,.slice B f d],U,.slice A n c] w (qQ (mQ x U u) n w):=by
 have Ba:=ae uz
 clear uz
 obtain⟨n9,mf,lC,Sb,dT,DR⟩:=cS (λs (k:Below w w s)=>mM s x B f d R (by omega) (dh.below k)) (λs (k:Below w w s)=>kZ s A c u hn (by omega) (hr.gK aI k) (λx O=>bm (hc x O) (by omega)) 1 U) (λs (k:Below w w s)=>jo s A c u hn (by omega) (hr.gK aI k) (λx O=>bm (hc x O) (by omega))) (λs (k:Below w w s) (j:Nat) (x:Wt) O jq=>tW s A c u hn (by omega) (hr.gK aI k) (λx O=>bm (hc x O) (by omega)) (j:=j) (x:=x) O jq) (λs (k:Below w w s) (t:Nat) (x:Wt) O (wh co I:Int)=>vd s A c u hn (hr.gK aI k) (t:=t) (x:=x) O wh co I) (λs (k:Below w w s) (t:Nat) (x:Wt) O=>ez.row (hr.gK aI k) (j:=t) (x:=x) O)
 obtain⟨fW,HN⟩:=av R hn
 unfold Pz at n9
 rw[<-R]at n9
 clear R dh hn hr hc
 have bJ:Hid (Below w w (((w.alloc (oW x B f d)).alloc rp).alloc ke)):=aj (aj (aj (ai w) _) _) _
 have gC:Hid (ag (((w.alloc (oW x B f d)).alloc rp).alloc ke) (w.heap.size+1) 50 #[oZ,oZ,false,false,oN]):=(ag.newAt _ _ _ (by simp)).alloc _
 have ig:Hid (ag (((w.alloc (oW x B f d)).alloc rp).alloc ke) (w.heap.size+1+1) 64 #[oZ,oZ,oZ,oZ]):=(ag.newAt _ _ _ (by simp))
 go_enter func290,ntmps290
 go_wp2_with fail
 (with_reducible go_fit (n9.Y _ bJ.Y))
 rintro e m ⟨v,rfl,B1,d1,rfl,fe,L⟩
 have Nk:=gC.Y.ah L
 have Lz:=ig.Y.lt
 have DS:w.heap.size+1+1<m.heap.size:=(ig.Y.ah L).lt
 obtain⟨br,gD,ik,iU,eZ⟩:=bQ (aj (ah bJ.Y L) (oW x B1 f d1)) (Nk.alloc (oW x B1 f d1)) ((ig.Y.ah L).alloc (oW x B1 f d1)) (aK.alloc (aK.bL fe bJ.Y.size) (oW x B1 f d1)) (ag.new m 50 #[x.gen,x.cap,x.used,x.closed,.slice B1 f d1])
 clear fe L Nk gC ig bJ n9 Lz
 go_wp2_with fail
 (with_reducible go_fit (mf.Y _ br.Y))
 rintro e w2 ⟨T,W,ok,rfl,(HF:Hid _),H⟩
 obtain⟨bB,gO,jw,iH,eN⟩:=bQ (ah br.Y H) (gD.Y.ah H) (ik.Y.ah H) (eZ.Y.ah H) (aK.ah iU.Y H)
 clear H mf gD ik br eZ iU
 rcases ok with _|_
 .have hnone:dt u 1 U=none:=by
   have:=HF.Y.1;cases hh:fS u 1 U u.length with
   |none=>exact hh
   |some p=>rw[hh]at this;cases this
  have dz:x.buf≠[]:=Ba.Y.resolve_right (by rw[hnone];decide)
  obtain⟨h,rest,Q⟩:∃h rest,x.buf=h::rest:=by
   cases hh:x.buf with
   |nil=>exact absurd hh dz
   |cons a l=>exact⟨a,l,rfl⟩
  have HG:Hid (mQ x U u=⟨{x with buf:=rest},u,⟨0,0,0,h⟩,[]⟩):=by unfold Hid mQ;rw[hnone];dsimp only;rw[Q];rfl
  have T3:=fW.Y
  rw[Q]at T3
  have DO:0<f:=by rw[T3];simp
  have iX:f-1=rest.length:=by rw[T3];simp
  obtain⟨N,uT⟩:=eN.Y.pw
  have tU:=(aK.cap eN.Y).2
  obtain⟨ad,fc,hA,F,hcell⟩:=bD.at_ uT (i:=0) (by rw[Q];simp)
  rw[Q]at F
  injection F with F
  subst F hA
  have sL:w2.cell? ad=some h:=hcell
  have Jp:=λw'=>ib (P:=prog) 22 3 underlying22 dI (some ad) f d1 1 1 rfl (by omega) w'
  have iF:=ae (λw' (k:Below w2 w2 w')=>mG w' (kS (some ad) d1 1 1) (d1-1) rest iX (by omega) (by
   have:=bD.from (uT.below k) (by rw[<-fW.Y];exact tU) 1;rw[Q]at this;rw[oK];exact this))
  clear hnone dz Q T3 N uT hcell
  have C0:=ae iX
  clear iX
  obtain⟨cU,a8,-⟩:=ag.aF iH.Y
  have eB:=ag.lt iH.Y
  go_wp2_with fail
  (with_reducible go_fit (iF.Y _ (ai _)))
  rintro e w3 ⟨z,o,rfl,e5,Jr,E⟩
  have C:=iH.Y.ah E
  have xr:=gO.Y.ah E
  have M:=jw.Y.ah E
  obtain⟨DX,DY,PC⟩:=ag.aF C
  obtain⟨rG,ku,kG,fh,j7⟩:=bQ C xr M (ah bB.Y E) (aK.bL Jr bB.Y.size)
  clear Jr E e5 C xr M cU a8 eB sL Jp iF
  go_wp2_with fail
  have Z:=rG.Y.bp 4 (.slice z (f-1) o)
  have Eb:=ku.Y.b9 (p:=⟨m,4,none⟩) (by show w.heap.size+1≠m;omega) (.slice z (f-1) o)
  have R7:=kG.Y.b9 (p:=⟨m,4,none⟩) (by show w.heap.size+1+1≠m;omega) (.slice z (f-1) o)
  have Fq:aK _ w 3 .i64 (.slice z (f-1) o) rest:=bu j7.Y rG.Y (by decide) 4 (.slice z (f-1) o)
  have dJ:=fh.Y.setCell (p:=⟨m,4,none⟩) (by show w.heap.size<=m.heap.size;omega) (.slice z (f-1) o)
  generalize CZ:w3.setCell ⟨m,4,none⟩ (.slice z (f-1) o)=w5 at *
  have iq:=ae dJ.drew;have lz:Hid (ag w5.drew _ _ _):=Eb;have iA:Hid (ag w5.drew _ _ _):=R7;have qT:Hid (ag w5.drew _ _ _):=Z;have pR:=ae (aK.ah Fq (ai w5).drew)
  have GF:=λi=>ag.cell Z i
  have PD:=ag.lt Z
  clear CZ Z Eb R7 Fq dJ DX DY PC rG ku kG fh j7 iH gO jw bB eN
  go_region_law(first
   |(go_simp;go_at_call 256;(with_reducible go_fit (lC.Y _ iq.Y));rintro e w6 ⟨v,rfl,q,r,rfl,TA,K⟩;have LB:=qT.Y.ah K;have JI:=lz.Y.ah K;have Fx:=iA.Y.ah K;have PE:=λi=>ag.cell LB i;have LC:=λi=>ag.cell JI i;have PF:=λi=>ag.free JI i;have YD:=λi=>ag.cell Fx i;have YE:=λi=>ag.free Fx i;have PG:=LB.lt;have PH:=JI.lt;have YF:=Fx.lt;go_wp2_with fail))
  all_goals
   go_wp2_with fail;have YG:=ah iq.Y K;have Ah:=aK.ah pR.Y K;have eG:=TA.bL (base':=w.heap.size) iq.Y.size;clear PE LC PF YD YE PG PH YF GF PD;obtain⟨TW,iB,Cg⟩:=o7.mk' (v1:=[x.gen,x.cap,x.used,x.closed,.slice z (f-1) o]) (v2:=[oZ,oZ,oZ,h]) JI Fx (by omega) rfl rfl;have vY:=TW.own Ah (by decide) (by decide);have LD:=TW.qR aI eG (by decide) (by decide) (by decide) (by decide);have kN:=TW.below rfl YG (by omega) (by omega);change bodyPost _ _ _ _ _ (ax (ax w6 (w.heap.size+1) 0 [x.gen,x.cap,x.used,x.closed,.slice z (f-1) o]) (w.heap.size+1+1) 0 [oZ,oZ,oZ,h]);generalize ax (ax w6 (w.heap.size+1) 0 [x.gen,x.cap,x.used,x.closed,.slice z (f-1) o]) (w.heap.size+1+1) 0 [oZ,oZ,oZ,h]=wz at *;have pJ:=λi=>ag.cell iB i;have sK:=λi=>ag.cell Cg i;refine bodyPost_ret (v:=.tuple #[.agg #[x.gen,x.cap,x.used,x.closed,.slice z (f-1) o],.slice q n r,.agg #[oZ,oZ,oZ,h],oN]) ?_ rfl ?_
   .simp[results,results290,go_sem,pJ,sK]
   .rw[HG.Y];exact qQ.mk' (w:=w) (g:=⟨{x with buf:=rest},u,⟨0,0,0,h⟩,[]⟩) (C0.Y) (rfl) vY LD (Rd.nil _ _) (λb k=>by cases k) (aR _) kN
 .obtain⟨⟨t,i⟩,Y⟩:=Option.isSome_iff_exists.1 HF.Y.1.symm;obtain⟨hT,hW,_⟩:=HF.Y.2 t i Y;obtain⟨y,hy,dQ⟩:=kA Y;obtain⟨jq,⟨k1,k2,I⟩,S,_⟩:=Cf dQ;obtain⟨h,rest,Q⟩:∃h rest,x.buf++[I]=h::rest:=by
   cases hh:x.buf with
   |nil=>exact⟨I,[],rfl⟩
   |cons a l=>exact⟨a,l++[I],rfl⟩
  have iX:f=rest.length:=by have h1:=congrArg List.length Q;have h2:=fW.Y;simp at h1;omega
  have HG:Hid (mQ x U u=⟨{x with buf:=rest},et u t,⟨0,0,0,h⟩,[⟨t,⟨y.seq,i,0,0⟩⟩]⟩):=by
   have h1:dt u 1 U=some (t,i):=Y;have h2:u.getD t fU=y:=by rw[ew,hy];rfl
   have h3:y.cases.getD i (0,0,0)=(k1,k2,I):=by rw[ew,S];rfl
   unfold Hid mQ;rw[h1];dsimp only;rw[h2,h3];dsimp only;rw[Q];unfold mO;rw[h2];rfl
  subst hT hW;obtain⟨ad,D,dd,hA,_,pS,c0,c1,c2,c3⟩:=DR.Y w2 bB.Y t y hy;have JH:t<n:=by rw[HN.Y];exact bT hy
  have uv:i<y.cases.length:=bT S;obtain⟨kd,kk,hD,GG,GH⟩:=cN.at_ cM (by decide) pS uv;rw[S]at GG;injection GG with GG
  subst GG;have dS:=GH 2 _ rfl;rw[add_lit _ _ (by decide)]at dS;subst hA hD;obtain⟨HY,Fy,b8,C0⟩:=bh hy jq Q iX;obtain⟨cl,kR⟩:∃cl,cl=y.cases.length:=⟨_,rfl⟩
  rw[<-kR]at uv c3;have i1:(0:Int)<=(i:Int):=by omega
  have i2:(i:Int)<(cl:Int):=by omega
  have i3:(0:Int)<=(t:Int):=by omega
  have i4:(t:Int)<(n:Int):=by omega
  clear Y hy dQ jq S Q iX pS GH c0 c1 c2 kR;have cy:=aK.ah eN.Y (ai w2).drew;have cz:=iH.Y.drewN 1;have cD:=gO.Y.drewN 1;have cF:=jw.Y.drewN 1;have cG:=bB.Y.drew;have YI:=ae cy;have cO:Hid (ag w2.drew m 50 #[x.gen,x.cap,x.used,x.closed,.slice B1 f d1]):=cz;have cR:Hid (ag w2.drew (w.heap.size+1) 50 #[oZ,oZ,false,false,oN]):=cD;have dc:Hid (ag w2.drew (w.heap.size+1+1) 64 #[oZ,oZ,oZ,oZ]):=cF;have df:=ae cG;clear cy cz cD cF cG;obtain⟨cU,a8,-⟩:=ag.aF iH.Y;have eB:=ag.lt iH.Y;go_wp2;go_region_law(first
   |(refine mE rfl _ _ 22 rfl w 3 .i64 underlying22 dI _ x.buf rfl ?_ w2 1 1 [I] rfl rfl ?_ ?_ ?_ ?_;(exact aK.alloc YI.Y _);(exact bD.one _ .i64 _ _);(rw[<-fW.Y];simp;omega);(have:=bB.Y.size;simp;omega);intro v4 w4 dm bE e9;clear e9;obtain⟨z,o,dP⟩:=dm.shape;rw[fM,iw, <-fW.Y]at dP;subst dP;have pT:=aK.alloc YI.Y (.cells #[I] 3);have bz:=cO.Y.alloc (.cells #[I] 3);have uD:=cR.Y.alloc (.cells #[I] 3);have b6:=dc.Y.alloc (.cells #[I] 3);have C:=bz.grown bE (ba pT bz (by decide));have xr:=uD.grown bE (ba pT uD (by decide));have M:=b6.grown bE (ba pT b6 (by decide));have E:=aK.aW pT (aj df.Y (.cells #[I] 3)) bE (by have:=bB.Y.size;simp;omega) (aR _);have DX:=λi=>ag.cell C i;have DY:=λi=>ag.free C i;have PC:=C.lt;have rG:=ae C;have ku:=ae xr;have kG:=ae M;have fh:=ae E;have j7:=ae dm;clear dm bE pT bz uD b6 C xr M E;go_wp2_with fail))
  all_goals
   clear cU a8 eB c3 dS i1 i2 i3 i4;have Z:=rG.Y.bp 4 (.slice z (f+1) o);have Eb:=ku.Y.b9 (p:=⟨m,4,none⟩) (by show w.heap.size+1≠m;omega) (.slice z (f+1) o);have R7:=kG.Y.b9 (p:=⟨m,4,none⟩) (by show w.heap.size+1+1≠m;omega) (.slice z (f+1) o);have Fq:aK _ w 3 .i64 (.slice z (f+1) o) (x.buf++[I]):=bu j7.Y rG.Y (by decide) 4 (.slice z (f+1) o);have dJ:=fh.Y.setCell (p:=⟨m,4,none⟩) (by show w.heap.size<=m.heap.size;omega) (.slice z (f+1) o);generalize CZ:w4.setCell ⟨m,4,none⟩ (.slice z (f+1) o)=w5 at *;rw[b8.Y]at Fq;obtain⟨N,uT⟩:=aK.pw Fq;have tU:=(aK.cap Fq).2;obtain⟨a7,fc,hA,F,hcell⟩:=bD.at_ uT (i:=0) (by simp);injection F with F
   subst F hA;have sL:w5.cell? a7=some h:=hcell;have Jp:=λw'=>ib (P:=prog) 22 3 underlying22 dI (some a7) (f+1) o 1 1 rfl (by omega) w';have iF:=ae (λw' (k:Below w5 w5 w')=>mG w' (kS (some a7) o 1 1) (o-1) rest C0.Y (by omega) (by
    have:=bD.from (c:=o) (uT.below k) (by simp;have:=C0.Y;omega) 1;rw[oK];exact this))
   obtain⟨qT,lz,iA,iq⟩:=bh Z Eb R7 dJ;obtain⟨GF,dw,-⟩:=ag.aF Z;have PD:=ag.lt Z;clear CZ Z Eb R7 dJ Fq N uT tU hcell DX DY PC rG ku kG fh j7 iH gO jw bB eN cO cR dc df YI;go_wp2_with fail;(with_reducible go_fit (iF.Y _ (ai _)));rintro e w6 ⟨q,r,rfl,e6,TA,K⟩;have LB:=qT.Y.ah K;have JI:=lz.Y.ah K;have Fx:=iA.Y.ah K;obtain⟨PE,dy,PG⟩:=ag.aF LB;obtain⟨aq,ct,cw,nJ,Ec⟩:=bQ LB JI Fx (ah iq.Y K) (aK.bL TA iq.Y.size);clear TA K e6 LB JI Fx GF dw PD sL Jp iF qT lz iA iq;obtain⟨HE,HC⟩:=av (λs k=>dT.Y s k t y HY.Y i 0 0) (λs k=>Sb.Y s k t y HY.Y Fy.Y);go_wp2_with fail;have PJ:=aq.Y.bp 4 (.slice q f r);have dO:=ct.Y.b9 (p:=⟨m,4,none⟩) (by show w.heap.size+1≠m;omega) (.slice q f r);have Sc:=cw.Y.b9 (p:=⟨m,4,none⟩) (by show w.heap.size+1+1≠m;omega) (.slice q f r);have YJ:aK _ w 3 .i64 (.slice q f r) rest:=bu Ec.Y aq.Y (by decide) 4 (.slice q f r);have qU:=nJ.Y.setCell (p:=⟨m,4,none⟩) (by show w.heap.size<=m.heap.size;omega) (.slice q f r);generalize e8:w6.setCell ⟨m,4,none⟩ (.slice q f r)=w7 at *;obtain⟨a6,cv,Ai,zE,PK⟩:=bQ PJ dO Sc qU YJ;clear e8 PJ dO Sc qU YJ PE dy PG aq ct cw nJ Ec;(with_reducible go_fit (HE.Y _ zE.Y));rintro e w3 ⟨rfl,G⟩;obtain⟨bU,iG,gN,mq,j5,vZ⟩:=cS (aj (ah zE.Y G) (.cells #[t,y.seq,i,oZ,oZ] 188)) ((cv.Y.ah G).alloc (.cells #[t,y.seq,i,oZ,oZ] 188)) ((Ai.Y.ah G).alloc (.cells #[t,y.seq,i,oZ,oZ] 188)) ((a6.Y.ah G).alloc (.cells #[t,y.seq,i,oZ,oZ] 188)) (aK.alloc (aK.ah PK.Y G) (.cells #[t,y.seq,i,oZ,oZ] 188)) (ag.new w3 188 #[t,y.seq,i,oZ,oZ]);have Ok:m.heap.size<w3.heap.size:=(a6.Y.ah G).lt;clear G;go_wp2_with fail;(with_reducible go_fit (HC.Y _ bU.Y));rintro e J ⟨v,rfl,A8,c8,rfl,dM,ve⟩;have V:=iG.Y.ah ve;have X:=gN.Y.ah ve;have b5:=mq.Y.ah ve;have b7:=vZ.Y.ah ve;obtain⟨GI,Sd,er⟩:=aS (ah bU.Y ve) (aK.ah j5.Y ve) (dM.bL (base':=w.heap.size) bU.Y.size);obtain⟨bN,cj,-⟩:=ag.aF V;have cu:=ag.lt V;obtain⟨gB,nQ,-⟩:=ag.aF X;have e7:=ag.lt X;have cU:=λi=>ag.cell b5 i;have eB:=ag.lt b5;have Wr:=λi=>ag.cell b7 i;have wY:=ag.lt b7;obtain⟨dU,en⟩:=av V X;clear V X b5 b7 dM ve bU iG gN mq j5 vZ a6 cv Ai zE PK HE HC;go_wp2;go_region;all_goals
    go_wp2_with fail;clear bN cj cu gB nQ e7 cU eB Wr wY;obtain⟨TW,iB,Cg⟩:=o7.mk' (v1:=[x.gen,x.cap,x.used,x.closed,.slice q f r]) (v2:=[oZ,oZ,oZ,h]) dU.Y en.Y (by omega) rfl rfl;have hD:Below _ (ax (ax J (w.heap.size+1) 0 [x.gen,x.cap,x.used,x.closed,.slice q f r]) (w.heap.size+1+1) 0 [oZ,oZ,oZ,h]) (((ax (ax J (w.heap.size+1) 0 [x.gen,x.cap,x.used,x.closed,.slice q f r]) (w.heap.size+1+1) 0 [oZ,oZ,oZ,h]).alloc (.cells #[t,y.seq,i,oZ,oZ] 188)).drew):=(aj (ai (ax (ax J (w.heap.size+1) 0 [x.gen,x.cap,x.used,x.closed,.slice q f r]) (w.heap.size+1+1) 0 [oZ,oZ,oZ,h])) (.cells #[t,y.seq,i,oZ,oZ] 188)).drew;have vY:=aK.ah (TW.own Sd.Y (by decide) (by decide)) hD;have LD:=(TW.qR aI er.Y (by decide) (by decide) (by decide) (by decide)).gK aI hD;have kN:=ah (TW.below rfl GI.Y (by omega) (by omega)) hD;have iB:=iB.ah hD;have Cg:=Cg.ah hD;have yA:Rd ((ax (ax J (w.heap.size+1) 0 [x.gen,x.cap,x.used,x.closed,.slice q f r]) (w.heap.size+1+1) 0 [oZ,oZ,oZ,h]).alloc (.cells #[t,y.seq,i,oZ,oZ] 188)) J [t,y.seq,i,oZ,oZ]:=Rd.Dm (ax (ax J (w.heap.size+1) 0 [x.gen,x.cap,x.used,x.closed,.slice q f r]) (w.heap.size+1+1) 0 [oZ,oZ,oZ,h]) [t,y.seq,i,oZ,oZ] 188 (by rw[bO,bO]);have YH:=yA.below (ai _).drew;have dg:Ty ((ax (ax J (w.heap.size+1) 0 [x.gen,x.cap,x.used,x.closed,.slice q f r]) (w.heap.size+1+1) 0 [oZ,oZ,oZ,h]).alloc (.cells #[t,y.seq,i,oZ,oZ] 188)) 188 J:=⟨_,_,ag.newAt (ax (ax J (w.heap.size+1) 0 [x.gen,x.cap,x.used,x.closed,.slice q f r]) (w.heap.size+1+1) 0 [oZ,oZ,oZ,h]) 188 #[t,y.seq,i,oZ,oZ] (by rw[bO,bO])⟩
    have eO:=dg.below (ai _).drew;clear yA dg;change bodyPost _ _ _ _ _ (((ax (ax J (w.heap.size+1) 0 [x.gen,x.cap,x.used,x.closed,.slice q f r]) (w.heap.size+1+1) 0 [oZ,oZ,oZ,h]).alloc (.cells #[t,y.seq,i,oZ,oZ] 188)).drew);clear hD TW;generalize((ax (ax J (w.heap.size+1) 0 [x.gen,x.cap,x.used,x.closed,.slice q f r]) (w.heap.size+1+1) 0 [oZ,oZ,oZ,h]).alloc (.cells #[t,y.seq,i,oZ,oZ] 188)).drew=wz at *;have pJ:=λi=>ag.cell iB i;have sK:=λi=>ag.cell Cg i;refine bodyPost_ret (v:=.tuple #[.agg #[x.gen,x.cap,x.used,x.closed,.slice q f r],.slice A8 n c8,.agg #[oZ,oZ,oZ,h],.slice J 1 1]) ?_ rfl ?_
    .simp[results,results290,go_sem,pJ,sK]
    .rw[HG.Y];exact qQ.mk' (w:=w) (g:=⟨{x with buf:=rest},et u t,⟨0,0,0,h⟩,[⟨t,⟨y.seq,i,0,0⟩⟩]⟩) (C0.Y) rfl vY LD YH (λb k _=>by injection k with k;subst k;exact eO) (aR _) kN
structure j9 (g:Mo.r7) (n base:Nat) (w':World) (B:Option Addr) (d:Nat) (A:Option Addr) (c:Nat) (D:Option Addr) (dd:Nat):Prop where
 pw:bD w' .i64 B g.c.buf
 Ns:∀b,B=some b->g.c.buf≠[]->Ty w' 3 b.block
 cap:g.c.buf.length<=d
 own:j6 w' base (.slice A n c) g.l
 Se:cN w' ie D g.told
 LG:∀b,D=some b->g.told≠[]->Ty w' 188 b.block
 GJ:g.told.length<=dd
theorem o7.rd(T:o7 w w' q r t1 t2){f:List Value}{e:TypeId}(h:Rd w A f)(z:∀b,A=some b->f≠[]->Ty w e b.block)(o:e≠t1)(y:e≠t2):Rd w' A f:=by
 intro i u j;obtain⟨a,g,c⟩:=h i u j;have d:f≠[]:=by rintro rfl;simp at j
 refine⟨a,g,?_⟩;have k:(a.add i).block=a.block:=by unfold Addr.add;split<;>rfl
 have:=(T.ty (z a g d) o y).2;unfold World.cell? at c ⊢;rw[k]at c ⊢;rw[this];exact c
theorem j9.two{g:r7}(h:j9 g n base w B d A c D dd)(T:o7 w w' q r 50 64):j9 g n base w' B d A c D dd :=
 ⟨T.rd h.pw (λb e a=>h.Ns b e (λf=>a (by rw[f];rfl))) af af,λb e a=>(T.ty (h.Ns b e a) af af).1,h.cap,T.qR aI h.own af af af af,
  T.rd h.Se (λb e a=>h.LG b e (λf=>a (by rw[f];rfl))) af af,λb e a=>(T.ty (h.LG b e a) af af).1,h.GJ⟩
theorem j9.bL{g:r7}{base':Nat}(h:j9 g n base w B d A c D dd)(e:base'<=base):j9 g n base' w B d A c D dd:=⟨h.pw,h.Ns,h.cap,h.own.bL e,h.Se,h.LG,h.GJ⟩
theorem j9.more{g:r7}(h:j9 g n base w B d A c D dd)(e:Below w w w'):j9 g n base w' B d A c D dd:=⟨h.pw.below e,λb a f=>(h.Ns b a f).below e,h.cap,h.own.gK aI e,h.Se.below e,λb a f=>(h.LG b a f).below e,h.GJ⟩
theorem j9.e{g:r7}(h:j9 g n w w' B d A c D dd)(e:Below w w w') :
 qQ g n w (.returned (.tuple #[.agg #[g.c.gen,g.c.cap,g.c.used,g.c.closed,.slice B g.c.buf.length d],.slice A n c,.agg #[g.r.seq,g.r.cs,g.r.code,g.r.value],.slice D g.told.length dd])) w' :=
 ⟨B,d,A,c,D,dd,rfl,h.pw,h.Ns,h.cap,h.own,h.Se,h.LG,h.GJ,e⟩
theorem qQ.p{g:r7}{e:Ending}(h:qQ g n w e w'):∃B d A c D dd,e=.returned (.tuple #[.agg #[g.c.gen,g.c.cap,g.c.used,g.c.closed,.slice B g.c.buf.length d],.slice A n c,.agg #[g.r.seq,g.r.cs,g.r.code,g.r.value],.slice D g.told.length dd])/\j9 g n w w' B d A c D dd/\Below w w w':=by obtain⟨B,d,A,c,D,dd,rfl,a,b,f,i,j,k,l,m⟩:=h;exact⟨B,d,A,c,D,dd,rfl,⟨a,b,f,i,j,k,l⟩,m⟩
theorem T4(w:World)(x:Ch)(B:Option Addr)(o d:Nat)(p:o=x.buf.length)(LA:o<=90000)(E:bD w .i64 B x.buf)(A:Option Addr)(c:Nat)(f:List Wt)(M:n=f.length)(hl:n<=90000)(N:ez w A f)(K:∀x∈f,x.cases.length<=90000)(s:Int)(z:Int)(hu:x.used=true)(kB:cX x s f 1=true) :
 Calls prog 278 #[.agg #[x.gen,x.cap,x.used,x.closed,.slice B o d],s,.slice A n c,.int .i64 1,z] w (qQ (nz x s f 1 z) n w):=by
 obtain⟨n9,mf,lC,jC,C,fW⟩:=cS (λk (l:Below w w k)=>mM k x B o d p aa (E.below l)) (λk (l:Below w w k)=>kZ k A c f M aa (N.gK aI l) (λx L=>bm (K x L) aa) 1 s) (λk (l:Below w w k)=>jo k A c f M aa (N.gK aI l) (λx L=>bm (K x L) aa)) (λk (l:Below w w k)=>yx k x B o d p hu A c f M aa (N.gK aI l) (λx L=>bm (K x L) aa) s) (λk (l:Below w w k)=>(PA k x B o d p LA (E.below l) A c f M hl (N.gK aI l) K s z)) p
 have LH:=ae (show nz x s f 1 z=_ from rfl)
 unfold nz at LH
 rw[kB]at jC LH
 unfold Pz at n9
 rw[<-p]at n9
 have LI:=ae kB
 clear p E M N K kB
 obtain⟨j,h,us,u,I⟩:=x
 have LJ:us=true:=hu
 subst LJ
 clear hu
 dsimp only at *
 have bJ:Hid (Below w w (((w.alloc (.cells #[j,h,true,u,.slice B o d] 50)).alloc rp).alloc ke)):=aj (aj (aj (ai w) _) _) _
 have eW:Hid (ag (((w.alloc (.cells #[j,h,true,u,.slice B o d] 50)).alloc rp).alloc ke) w 50 #[j,h,true,u,.slice B o d]):=((ag.new _ _ _).alloc _).alloc _
 have gC:Hid (ag (((w.alloc (.cells #[j,h,true,u,.slice B o d] 50)).alloc rp).alloc ke) (w.heap.size+1) 50 #[oZ,oZ,false,false,oN]):=(ag.newAt _ _ _ aA).alloc _
 have ig:Hid (ag (((w.alloc (.cells #[j,h,true,u,.slice B o d] 50)).alloc rp).alloc ke) (w.heap.size+1+1) 64 #[oZ,oZ,oZ,oZ]):=(ag.newAt _ _ _ aA)
 go_enter func278,ntmps278
 go_wp2_with fail
 go_fit (mf _ bJ)
 rintro e w1 ⟨T,W,ok,rfl,hf,m⟩
 obtain⟨br,gD,ik,Y⟩:=bh (ah bJ m) (gC.ah m) (ig.ah m) (eW.ah m)
 have YK:Hid (ok=(dt f 1 s).isSome):=mN hf
 clear hf m mf
 have S:=λi=>ag.cell Y i
 have eB:=ag.lt Y
 go_wp2_with fail
 go_fit (jC _ br)
 rintro e w2 ⟨rfl,q⟩
 obtain⟨H,gO,jw,iH⟩:=bh (ah br q) (gD.ah q) (ik.ah q) (Y.ah q)
 clear q S eB jC
 have S:=λi=>ag.cell iH i
 have eB:=ag.lt iH
 rcases O:u with _|_
 .have P:Hid (nz ⟨j,h,true,u,I⟩ s f 1 z=mP ⟨j,h,true,u,I⟩ s f z):=by unfold Hid nz;rw[LI.Y,O];rfl
  obtain⟨g,hg⟩:=aw (mP ⟨j,h,true,u,I⟩ s f z);rw[<-hg]at P C;rw[O]at S C;have wg:=ae hg;clear hg;have iF:=ae O;subst O;go_wp2_with fail;go_fit (C _ H);rintro e w3 he;obtain⟨t,d3,A3,c3,D3,X,rfl,Nq,a⟩:=he.p;clear he;have uD:=gO.ah a;have F:=jw.ah a;have xi:=ah H a;obtain⟨R,U,V⟩:=ag.aF uD;obtain⟨Z,nQ,D⟩:=ag.aF F;obtain⟨Sf,iG,gN,J⟩:=bh (Nq.bL H.size) uD F xi;clear Nq a uD F xi;go_wp2_with fail;obtain⟨y,iB,Q⟩:=o7.mk' (v1:=[g.c.gen,g.c.cap,g.c.used,g.c.closed,.slice t g.c.buf.length d3]) (v2:=[g.r.seq,g.r.cs,g.r.code,g.r.value]) iG gN aa rfl rfl;have aq:=Sf.two y;have kN:=y.below rfl J aa aa;change bodyPost _ _ _ _ _ (ax (ax w3 (w.heap.size+1) 0 [g.c.gen,g.c.cap,g.c.used,g.c.closed,.slice t g.c.buf.length d3]) (w.heap.size+1+1) 0 [g.r.seq,g.r.cs,g.r.code,g.r.value]);clear y R U V Z nQ D;generalize ax (ax w3 (w.heap.size+1) 0 [g.c.gen,g.c.cap,g.c.used,g.c.closed,.slice t g.c.buf.length d3]) (w.heap.size+1+1) 0 [g.r.seq,g.r.cs,g.r.code,g.r.value]=wz at *;have pJ:=λi=>ag.cell iB i;have sK:=λi=>ag.cell Q i;refine bodyPost_ret (v:=.tuple #[.agg #[g.c.gen,g.c.cap,g.c.used,g.c.closed,.slice t g.c.buf.length d3],.slice A3 n c3,.agg #[g.r.seq,g.r.cs,g.r.code,g.r.value],.slice D3 g.told.length X]) ?_ rfl ?_
  .simp[results,results278,go_sem,pJ,sK]
  .rw[P.Y];exact aq.e kN
 .subst O;have P:Hid (nz ⟨j,h,true,true,I⟩ s f 1 z=⟨⟨j,h,true,true,I⟩,f,bg 9,[]⟩):=by unfold Hid nz;rw[LI.Y];rfl
  go_wp2_with fail;go_fit (n9 _ H);rintro e w3 ⟨v,rfl,t,d3,rfl,pT,a⟩;obtain⟨iG,gN,J,j5⟩:=bh (gO.ah a) (jw.ah a) (ah H a) (aK.bL pT H.size);clear pT a;go_wp2_with fail;go_fit (lC _ J);rintro e w4 ⟨v,rfl,A4,c4,rfl,Jr,r⟩;have xr:=iG.ah r;have G:=gN.ah r;obtain⟨R,U,V⟩:=ag.aF xr;obtain⟨Z,nQ,D⟩:=ag.aF G;obtain⟨ku,kG,fh,j7,Ci⟩:=bQ xr G (ah J r) (aK.ah j5 r) (Jr.bL (base':=w.heap.size) J.size);clear xr G Jr r;go_wp2_with fail;obtain⟨y,iB,Q⟩:=o7.mk' (v1:=[j,h,true,true,.slice t o d3]) (v2:=[oZ,oZ,.int .i64 9,oZ]) ku kG aa rfl rfl;have vY:=y.own j7 af af;have LD:=y.qR aI Ci af af af af;have kN:=y.below rfl fh aa aa;change bodyPost _ _ _ _ _ (ax (ax w4 (w.heap.size+1) 0 [j,h,true,true,.slice t o d3]) (w.heap.size+1+1) 0 [oZ,oZ,.int .i64 9,oZ]);clear y R U V Z nQ D;generalize ax (ax w4 (w.heap.size+1) 0 [j,h,true,true,.slice t o d3]) (w.heap.size+1+1) 0 [oZ,oZ,.int .i64 9,oZ]=wz at *;have pJ:=λi=>ag.cell iB i;have sK:=λi=>ag.cell Q i;refine bodyPost_ret (v:=.tuple #[.agg #[j,h,true,true,.slice t o d3],.slice A4 n c4,.agg #[oZ,oZ,.int .i64 9,oZ],oN]) ?_ rfl ?_
  .simp[results,results278,go_sem,pJ,sK]
  .rw[P.Y];exact qQ.mk' (w:=w) (g:=⟨⟨j,h,true,true,I⟩,f,bg 9,[]⟩) fW rfl vY LD (Rd.nil _ _) (λb l=>by cases l) (aR _) kN
theorem T5(w:World)(x:Ch)(B:Option Addr)(p d:Nat)(s:p=x.buf.length)(LA:p<=90000)(E:bD w .i64 B x.buf)(A:Option Addr)(c:Nat)(f:List Wt)(I:n=f.length)(hl:n<=90000)(J:ez w A f)(H:∀x∈f,x.cases.length<=90000)(o:Int)(M:Int)(V:x.used=true)(Y:cX x o f 2=true) :
 Calls prog 278 #[.agg #[x.gen,x.cap,x.used,x.closed,.slice B p d],o,.slice A n c,.int .i64 2,M] w (qQ (nz x o f 2 M) n w):=by
 obtain⟨Z,mf,lC,X,G,R⟩:=cS (λj (q:Below w w j)=>mM j x B p d s aa (E.below q)) (λj (q:Below w w j)=>kZ j A c f I aa (J.gK aI q) (λx K=>bm (H x K) aa) 1 o) (λj (q:Below w w j)=>jo j A c f I aa (J.gK aI q) (λx K=>bm (H x K) aa)) (λj (q:Below w w j)=>yz j x B p d s V A c f I aa (J.gK aI q) (λx K=>bm (H x K) aa) o) (λj (q:Below w w j)=>(λuz=>PI j x B p d s LA (E.below q) A c f I hl (J.gK aI q) H o uz)) s
 have LH:=ae (show nz x o f 2 M=_ from rfl)
 unfold nz at LH
 rw[Y]at X LH
 unfold Pz at Z
 rw[<-s]at Z
 have L:=ae Y
 clear s E I J H Y
 obtain⟨m,k,us,y,C⟩:=x
 have LJ:us=true:=V
 subst LJ
 clear V
 dsimp only at *
 have bJ:Hid (Below w w (((w.alloc (.cells #[m,k,true,y,.slice B p d] 50)).alloc rp).alloc ke)):=aj (aj (aj (ai w) _) _) _
 have eW:Hid (ag (((w.alloc (.cells #[m,k,true,y,.slice B p d] 50)).alloc rp).alloc ke) w 50 #[m,k,true,y,.slice B p d]):=((ag.new _ _ _).alloc _).alloc _
 have gC:Hid (ag (((w.alloc (.cells #[m,k,true,y,.slice B p d] 50)).alloc rp).alloc ke) (w.heap.size+1) 50 #[oZ,oZ,false,false,oN]):=(ag.newAt _ _ _ aA).alloc _
 have ig:Hid (ag (((w.alloc (.cells #[m,k,true,y,.slice B p d] 50)).alloc rp).alloc ke) (w.heap.size+1+1) 64 #[oZ,oZ,oZ,oZ]):=(ag.newAt _ _ _ aA)
 go_enter func278,ntmps278
 go_wp2_with fail
 go_fit (mf _ bJ)
 rintro e w1 ⟨T,W,ok,rfl,hf,r⟩
 obtain⟨br,gD,ik,Q⟩:=bh (ah bJ r) (gC.ah r) (ig.ah r) (eW.ah r)
 have YK:Hid (ok=(dt f 1 o).isSome):=mN hf
 clear hf r mf
 have cU:=λi=>ag.cell Q i
 have eB:=ag.lt Q
 go_wp2_with fail
 go_fit (X _ br)
 rintro e w2 ⟨rfl,t⟩
 obtain⟨bB,gO,jw,iH⟩:=bh (ah br t) (gD.ah t) (ik.ah t) (Q.ah t)
 clear t cU eB X
 have cU:=λi=>ag.cell iH i
 have eB:=ag.lt iH
 by_cases uz:C≠[]\/(dt f 1 o).isSome=true
 .have HG:Hid (nz ⟨m,k,true,y,C⟩ o f 2 M=mQ ⟨m,k,true,y,C⟩ o f):=by
   have U:0<C.length\/(dt f 1 o).isSome=true:=by
    rcases uz with h|h
    .left;cases C with
     |nil=>exact absurd rfl h
     |cons a l=>simp
    .exact .inr h
   unfold Hid nz;rw[L.Y,au af,au (λh=>absurd h.1 af),ay ⟨rfl,U⟩]
  have abb:=ae (λj q=>G j q uz)
  obtain⟨g,S⟩:=aw (mQ ⟨m,k,true,y,C⟩ o f)
  rw[<-S]at HG abb
  have wg:=ae S
  clear S G
  by_cases aq:0<p
  .have d1:decide ((0:Int)<p)=true:=cg aa;exact Ws
  .have O:p=0:=aa;have N:ok=true:=by
    rw[YK.Y];rcases uz with h|h
    .exfalso;have:=R.Y;cases C with
     |nil=>exact h rfl
     |cons a l=>simp at this;omega
    .exact h
   subst N O;exact Ws
 .have D:C=[]:=Decidable.not_not.1 (λh=>uz (.inl h));have z:(dt f 1 o).isSome=false:=by
   cases hh:(dt f 1 o).isSome with
   |false=>rfl
   |true=>exact absurd (.inr hh) uz
  have N:ok=false:=YK.trans z;have P:p=0:=by have:=R.Y;rw[D]at this;exact this
  have kR:y=true:=by have:=L.Y;unfold cX at this;rw[z,D]at this;simpa using this
  subst kR N D;have HG:Hid (nz ⟨m,k,true,true,[]⟩ o f 2 M=⟨⟨m,k,true,true,[]⟩,f,bg 9,[]⟩):=by
   have U:¬((2:Int)=2/\(0<([]:List Int).length\/(dt f 1 o).isSome=true)):=by
    rintro⟨_,h|h⟩
    .simp at h
    .rw[z]at h;cases h
   unfold Hid nz;rw[L.Y,au af,au (λh=>absurd h.1 af),au U]
  subst P;clear uz z;go_wp2_with fail;go_fit (Z _ bB);rintro e w3 ⟨v,rfl,B3,d3,rfl,pT,hb3⟩;obtain⟨iG,gN,bU,j5⟩:=bh (gO.ah hb3) (jw.ah hb3) (ah bB hb3) (aK.bL pT bB.size);clear pT hb3;go_wp2_with fail;go_fit (lC _ bU);rintro e w4 ⟨v,rfl,A4,c4,rfl,Jr,u⟩;have xr:=iG.ah u;have F:=gN.ah u;obtain⟨bN,cj,cu⟩:=ag.aF xr;obtain⟨gB,nQ,hgr⟩:=ag.aF F;obtain⟨ku,kG,fh,j7,Ci⟩:=bQ xr F (ah bU u) (aK.ah j5 u) (Jr.bL (base':=w.heap.size) bU.size);clear xr F Jr u;go_wp2_with fail;obtain⟨TW,iB,Cg⟩:=o7.mk' (v1:=[m,k,true,true,.slice B3 0 d3]) (v2:=[oZ,oZ,.int .i64 9,oZ]) ku kG aa rfl rfl;have vY:=TW.own j7 af af;have LD:=TW.qR aI Ci af af af af;have kN:=TW.below rfl fh aa aa;change bodyPost _ _ _ _ _ (ax (ax w4 (w.heap.size+1) 0 [m,k,true,true,.slice B3 0 d3]) (w.heap.size+1+1) 0 [oZ,oZ,.int .i64 9,oZ]);clear TW bN cj cu gB nQ hgr;generalize ax (ax w4 (w.heap.size+1) 0 [m,k,true,true,.slice B3 0 d3]) (w.heap.size+1+1) 0 [oZ,oZ,.int .i64 9,oZ]=wz at *;have pJ:=λi=>ag.cell iB i;have sK:=λi=>ag.cell Cg i;refine bodyPost_ret (v:=.tuple #[.agg #[m,k,true,true,.slice B3 0 d3],.slice A4 n c4,.agg #[oZ,oZ,.int .i64 9,oZ],oN]) ?_ rfl ?_
  .simp[results,results278,go_sem,pJ,sK]
  .rw[HG.Y];exact qQ.mk' (w:=w) (g:=⟨⟨m,k,true,true,[]⟩,f,bg 9,[]⟩) R rfl vY LD (Rd.nil _ _) (λb q=>by cases q) (aR _) kN
theorem Ed(e:α->α->Bool)(l:List α)(h:l.Nodup):(eA e l).Nodup:=by
 have j:∀(x:α) (l:List α),l.Nodup->x∉l->(gJ e x l).Nodup:=by
  intro x l;induction l with
  |nil=>intro _ _;exact List.nodup_cons.2 ⟨aA,List.nodup_nil⟩
  |cons y l i =>
   intro c g;show(if e x y=true then y::gJ e x l else x::y::l).Nodup;obtain⟨d,f⟩:=List.nodup_cons.1 c;split
   .refine List.nodup_cons.2 ⟨λb=>?_,i f (λb=>g (List.mem_cons_of_mem _ b))⟩;rcases tX e x y l b with b|b
    .exact g (b▸List.mem_cons_self)
    .exact d b
   .exact List.nodup_cons.2 ⟨g,c⟩
 have k:∀(l a:List α),l.Nodup->a.Nodup->(∀x∈l,x∉a)->(l.foldl (λa x=>gJ e x a) a).Nodup:=by
  intro l;induction l with
  |nil=>intro a _ h _;exact h
  |cons x l i =>
   intro a c o m;obtain⟨d,f⟩:=List.nodup_cons.1 c;refine i _ f (j x a o (m x List.mem_cons_self)) (λz n b=>?_);rcases tX e x z a b with b|b
   .exact d (b▸n)
   .exact m z (List.mem_cons_of_mem _ n) b
 unfold eA;refine(List.Perm.nodup_iff (List.reverse_perm _)).2 (k l [] h List.nodup_nil (λ_ _=>by simp))
theorem Bb(xs:List Wt)(e:Int):(mi xs e).Nodup:=Ed _ _ (List.nodup_range.sublist List.filter_sublist)
theorem Cj(h:t∈mi xs hd):∃x,xs[t]?=some x/\x.on=true/\x.cases.any (yt hd)=true:=by
 have h:=mK _ _ h;obtain⟨a,b⟩:=List.mem_filter.1 h;have a:=List.mem_range.1 a;have e:xs.getD t fU=xs[t]:=by rw[ew,cq a];rfl
 rw[e,eT]at b;exact⟨xs[t],cq a,b.1,b.2⟩
theorem Ee(h:x.cases.any (yt hd)=true):il (yt hd) x.cases=(lT x hd:Nat):=by
 unfold lT;have e:x.cases.findIdx? (λc=>c.2.1==hd)=x.cases.findIdx? (yt hd):=rfl;rw[e];rw[<-ly]at h;unfold il at h ⊢;cases a:x.cases.findIdx? (yt hd)with
 |none=>rw[a]at h;simp at h
 |some i=>rfl
theorem JJ(h:t∉L):(L.foldl et xs)[t]?=xs[t]?:=by
 induction L generalizing xs with
 |nil=>rfl
 |cons a L d=>rw[List.foldl_cons,d (λc=>h (List.mem_cons_of_mem _ c))];unfold et;rw[List.getElem?_set_ne (λb=>h (by rw[b];exact List.mem_cons_self))]
theorem JK:(L.foldl et xs).length=xs.length:=by
 induction L generalizing xs with
 |nil=>rfl
 |cons a L b=>rw[List.foldl_cons,b];unfold et;rw[dN]
theorem T7{P:Wt->Prop}(h:∀x∈xs,P x)(e:P fU):∀x∈L.foldl et xs,P x:=by
 induction L generalizing xs with
 |nil=>exact h
 |cons a L c =>
  rw[List.foldl_cons];refine c (λx b=>?_);unfold et at b;rcases List.mem_or_eq_of_mem_set b with b|b
  .exact h x b
  .rw[b];exact e
def jW(xs:List Wt)(e:Int)(j:Nat):List Mo.Told:=((mi xs e).take j).map λt=>mO xs t (lT (xs.getD t fU) e) 9 0
theorem yB(h:(mi xs hd)[j]?=some t)(f:xs[t]?=some x):jW xs hd (j+1)=jW xs hd j++[⟨t,⟨x.seq,lT x hd,9,0⟩⟩]:=by
 unfold jW;rw[eM h,List.map_append];have e:xs.getD t fU=x:=by rw[ew,f];rfl
 unfold mO;rw[List.map_singleton,e]
theorem Bc(xs:List Wt)(e:Int)(j:Nat):(jW xs e j).length<=j:=by unfold jW;rw[fP];exact List.length_take_le _ _
theorem PL(w:World)(x:Ch)(B:Option Addr)(o d:Nat)(s:o=x.buf.length)(I:o<=90000)(u:bD w .i64 B x.buf)(A:Option Addr)(c:Nat)(f:List Wt)(E:n=f.length)(F:n<=19)(hr:ez w A f)(z:∀x∈f,x.cases.length<=90000)(p:Int)(y:x.used=true) :
 Calls prog 268 #[.agg #[x.gen,x.cap,x.used,x.closed,.slice B o d],p,.slice A n c] w λe w'=>e=.returned (ot x p f)/\Below w w w':=by
 have j:=ae (λi (C:Below w w i)=>Py i A c f E F (hr.gK aI C) (λx D=>bm (z x D) aa) p)
 have b:Hid (ot x p f=(x.closed && decide (o=0) && decide ((mi f p).length=0))):=by unfold Hid ot;rw[y, <-s,Bool.true_and]
 generalize ot x p f=r at *
 clear u E hr z s
 obtain⟨v,q,G,h,J⟩:=x
 have l:G=true:=y
 subst l
 clear y
 dsimp only at *
 have bJ:Hid (Below w w (w.alloc (.cells #[v,q,true,h,.slice B o d] 50))):=aj (ai w) _
 cases h with
 |false =>
  have hr:r=false:=by rw[b.Y];rfl
  exact Wu
 |true =>
  by_cases g:o=0
  .subst g;go_enter func268,ntmps268;go_wp2_with fail;go_fit (j _ bJ);rintro e L ⟨H,K,rfl,t,a⟩;have m:=ae (ah bJ a);clear t a;have hr:r=decide ((mi f p).length=0):=by rw[b.Y];simp
   have k:=ae hr;clear hr;go_wp2;go_ret;exact⟨bK (by rw[k.Y,Bool.eq_iff_iff];simp),m⟩
  .have hr:r=false:=by rw[b.Y];simp[g]
   have d0:((o:Int)==0)=false:=by simpa using g
   exact Wu
def abc(g:r7)(n:Nat)(w:World)(e:Ending)(f:World):Prop:=∃B d A c D dd,e=.returned (.tuple #[.agg #[g.c.gen,g.c.cap,g.c.used,g.c.closed,.slice B g.c.buf.length d],.slice A n c,g.r.code,.slice D g.told.length dd])/\j9 g n w f B d A c D dd/\Below w w f
theorem o7.one{t:TypeId}(e:ag w q t c1.toArray)(o:c1.length=v1.length):o7 w (ax w q 0 v1) q q t t/\ag (ax w q 0 v1) q t v1.toArray:=⟨⟨⟨_,e⟩,⟨_,e⟩,λ_ hq _=>aM hq v1 0,bO _ _ _⟩,aY e o⟩
theorem j9.of{g:r7}(f:bl=g.c.buf.length)(e:aK w base 3 .i64 (.slice B bl d) g.c.buf)(u:j6 w base (.slice A n c) g.l)(s:g.told=[]):j9 g n base w B d A c none 0:=by subst f;exact⟨e.pw.2,λb a _=>by subst a;exact pI e,e.cap.2,u,by rw[s];exact Rd.nil _ _,λb a=>(by cases a),by rw[s];exact aR _⟩
theorem LK{u:Nat}{s:Value}{f:α->List Value}{l:List α}(h:j6 w base v xs)(o:aH w u 188 k f s l)(p:w.grownBy w' s.ownBlock):j6 w' base v xs:=by
 have i:∀b,eP w b->w'.heap[b]?=w.heap[b]?:=by
  intro b a;refine p.block b a.lt (λm=>?_);rcases a with⟨d,c,a⟩|⟨d,c,a⟩
  .exact eh o a af m
  .exact eh o a af m
 refine(aD.move aI h i (λg e=>?_)).mono aI (λb a=>?_)
 .obtain⟨rows,n,j,q⟩:=h;exact p.block g (bk j e).2 (cL j o af e)
 .rcases a with⟨d,c,a⟩|⟨d,c,a⟩
  .exact .inl ⟨d,c,(i b (.inl ⟨d,c,a⟩)).trans a⟩
  .exact .inr ⟨d,c,(i b (.inr ⟨d,c,a⟩)).trans a⟩
theorem pK:(prog.info? 188).map (λi=>(i.zero,i.size,i.bytes))=some (some (.agg #[oZ,oZ,oZ,oZ,oZ]),5,40):=by kernel_rfl
theorem PM(w:World)(x:Ch)(B:Option Addr)(o d:Nat)(E:o=x.buf.length)(LA:o<=90000)(aq:bD w .i64 B x.buf)(A:Option Addr)(c:Nat)(xs:List Wt)(hn:n=xs.length)(hl:n<=19)(hr:ez w A xs)(hc:∀x∈xs,x.cases.length<=90000)(hd:Int)(hu:x.used=true) :
 Calls prog 273 #[.agg #[x.gen,x.cap,x.used,x.closed,.slice B o d],hd,.slice A n c] w (abc (kP x hd xs) n w):=by
 obtain⟨n9,lC,Fy,bE,DR,HC⟩:=cS (λl (p:Below w w l)=>mM l x B o d E aa (aq.below p)) (λl (p:Below w w l)=>jo l A c xs hn aa (hr.gK aI p) (λx F=>bm (hc x F) aa)) (λl (p:Below w w l)=>Py l A c xs hn hl (hr.gK aI p) (λx F=>bm (hc x F) aa) hd) (λl (p:Below w w l) (t:Nat) (x:Wt) F (G co va:Int)=>vd l A c xs hn (hr.gK aI p) (t:=t) (x:=x) F G co va) (λl (p:Below w w l) (t:Nat) (x:Wt) F=>ez.row (hr.gK aI p) (j:=t) (x:=x) F) hc
 obtain⟨X,HN⟩:=av E hn
 unfold Pz at n9
 rw[<-E]at n9
 clear E aq hn hr hc
 obtain⟨f,a,us,O,V⟩:=x
 have LJ:us=true:=hu
 subst LJ
 clear hu
 dsimp only at *
 have bJ:Hid (Below w w (((w.alloc (.cells #[f,a,true,O,.slice B o d] 50)).alloc (.cells #[hd] 3)).alloc rp)):=aj (aj (aj (ai w) _) _) _
 have eW:Hid (ag (((w.alloc (.cells #[f,a,true,O,.slice B o d] 50)).alloc (.cells #[hd] 3)).alloc rp) w 50 #[f,a,true,O,.slice B o d]):=((ag.new _ _ _).alloc _).alloc _
 have rH:Hid (ag (((w.alloc (.cells #[f,a,true,O,.slice B o d] 50)).alloc (.cells #[hd] 3)).alloc rp) (w.heap.size+1) 3 #[hd]):=(ag.newAt _ _ _ aA).alloc _
 have gC:Hid (ag (((w.alloc (.cells #[f,a,true,O,.slice B o d] 50)).alloc (.cells #[hd] 3)).alloc rp) (w.heap.size+1+1) 50 #[oZ,oZ,false,false,oN]):=(ag.newAt _ _ _ aA)
 go_enter func273,ntmps273
 go_wp2_with fail
 go_fit (n9 _ bJ)
 rintro e w1 ⟨v,rfl,h,d1,rfl,fe,s⟩
 obtain⟨br,eZ,wZ,gD,iU⟩:=bQ (ah bJ s) (eW.ah s) (rH.ah s) (gC.ah s) (aK.bL fe bJ.size)
 clear fe s
 go_wp2_with fail
 go_fit (lC _ br)
 rintro e M ⟨v,rfl,A2,c2,rfl,gA,r⟩
 obtain⟨bB,iH,ir,Q,eN,tv⟩:=cS (ah br r) (eZ.ah r) (wZ.ah r) (gD.ah r) (aK.ah iU r) (gA.bL (base':=w.heap.size) br.size)
 clear gA r bJ br eW eZ rH wZ gC gD iU
 have cU:=λi=>ag.cell iH i
 have eB:=ag.lt iH
 have a6:=λi=>ag.cell ir i
 have rX:=ag.lt ir
 obtain⟨bN,cj,-⟩:=ag.aF Q
 have cu:=ag.lt Q
 cases O with
 |true =>
  have HG:Hid (kP ⟨f,a,true,true,V⟩ hd xs=⟨⟨f,a,true,true,V⟩,xs,bg 9,[]⟩):=rfl;go_wp2_with fail;obtain⟨I,iB⟩:=o7.one (v1:=[f,a,true,true,.slice h o d1]) Q rfl;have AL:=I.own eN af af;have Z:=I.qR aI tv af af af af;have xi:Below w w (ax M (w.heap.size+1+1) 0 [f,a,true,true,.slice h o d1]):=az aa _ _ _ bB;clear I cU eB a6 rX bN cj cu;have K:=aj (ai (ax M (w.heap.size+1+1) 0 [f,a,true,true,.slice h o d1])) (.cells #[f,a,true,true,.slice h o d1] 50);have hP:=j9.of (g:=⟨⟨f,a,true,true,V⟩,xs,bg 9,[]⟩) X (aK.ah AL K) (Z.gK aI K) rfl;have kN:=ah xi K;have iB:=iB.ah K;clear AL Z xi K;change bodyPost _ _ _ _ _ ((ax M (w.heap.size+1+1) 0 [f,a,true,true,.slice h o d1]).alloc (.cells #[f,a,true,true,.slice h o d1] 50));generalize(ax M (w.heap.size+1+1) 0 [f,a,true,true,.slice h o d1]).alloc (.cells #[f,a,true,true,.slice h o d1] 50)=wz at *;have pJ:=λi=>ag.cell iB i;refine bodyPost_ret (v:=.tuple #[.agg #[f,a,true,true,.slice h o d1],.slice A2 n c2,.int .i64 9,oN]) ?_ rfl ?_
  .simp[results,results273,go_sem,pJ]
  .rw[HG.Y];exact⟨h,d1,A2,c2,none,0,by rw[X.Y];rfl,hP,kN⟩
 |false =>
  have HG:Hid (kP ⟨f,a,true,false,V⟩ hd xs=⟨⟨f,a,true,true,V⟩,(mi xs hd).foldl et xs,bg 0,jW xs hd (mi xs hd).length⟩):=by unfold jW;rw[List.take_of_length_le (aR _)];rfl
  go_wp2_with fail;obtain⟨bU,iG,Sg,j5,oL,np⟩:=cS (aj bB (.cells #[f,a,true,true,.slice h o d1] 50)) (Q.alloc (.cells #[f,a,true,true,.slice h o d1] 50)) (ir.alloc (.cells #[f,a,true,true,.slice h o d1] 50)) (aK.alloc eN (.cells #[f,a,true,true,.slice h o d1] 50)) (tv.gK aI (aj (ai M) (.cells #[f,a,true,true,.slice h o d1] 50))) (ag.new M 50 #[f,a,true,true,.slice h o d1]);have BO:w.heap.size+1+1<M.heap.size:=Q.lt;clear cU eB a6 rX bN cj cu bB Q ir eN tv iH;go_fit (Fy _ bU);rintro e w3 ⟨A3,c3,rfl,pT,q⟩;obtain⟨Y,ku,Sa,j7,Ci,rI⟩:=cS (ah bU q) (iG.ah q) (Sg.ah q) (aK.ah j5 q) (oL.gK aI q) (np.ah q);have X5:=ae (aK.pw pT);clear pT q bU iG Sg j5 oL np;obtain⟨m,hm⟩:=aw ((mi xs hd).length);have Ky:m<=n:=by exact Wv
  rw[<-hm]at HG X5 ⊢;have HM:=ae hm;clear hm;go_wp2;go_loopw[11,12,34] (λv td i wr=>∃(j:Nat) (H:Option Addr) (N:Nat) (D:Option Addr) (P:Nat),j<=m/\i=j/\v=.slice H n N/\td=.slice D (jW xs hd j).length P/\Hid (j6 wr w (.slice H n N) (((mi xs hd).take j).foldl et xs))/\Hid (aH wr w3 188 5 ie (.slice D (jW xs hd j).length P) (jW xs hd j))/\Hid (Below w3 w3 wr)) (λ_ _ i _=>m-(intOf i).toNat);case atStart=>exact⟨0,A2,c2,none,0,aZ _,rfl,rfl,rfl,Ci,aH.nil _ _ _ _ _,ai _⟩
  case round =>
   obtain⟨j,H,N,D,P,hj,rfl,rfl,rfl,HW,HT,u⟩:=hrel;by_cases a7:j<m
   .obtain⟨t,ht⟩:∃t,(mi xs hd)[j]?=some t:=⟨_,cq (by rw[<-HM.Y];exact a7)⟩
    obtain⟨y,L,jq,tZ⟩:=Cj (bo ht);obtain⟨ad,z,K,hz,hcell⟩:=bD.at_ (X5.2.below u) (i:=j) (by rw[dR, <-HM.Y];exact a7);have cw:z=(t:Int):=by unfold dD at hz;rw[List.getElem?_map,ht]at hz;simpa using hz.symm
    subst cw;have Ef:t∉(mi xs hd).take j:=by exact Ww
    have oY:=ah Y u;obtain⟨cz,D',T8,zC,_,pS,c0,c1,b7,b8⟩:=DR.Y wr oY t y L;have JH:t<n:=by rw[HN.Y];exact bT L
    have qm:y.cases.length<=90000:=HC.Y y (bo L);have C:=ae (ym wr 281 #[.pointer (some ⟨w.heap.size+1,0,none⟩)] (w.heap.size+1) 0 (.inr (.inr ⟨rfl,rfl⟩)) (yt hd) (λk l p=>Yv l (w.heap.size+1) hd (((Sa.ah u).ah p).cell 0) ((Sa.ah u).ah p).lt k) D' T8 y.cases _ rfl pS aa);rw[Ee tZ]at C;have HE:=ae (λl p=>bE l p t y L (lT y hd:Nat) 9 0);have wY:=(JJ (xs:=xs) Ef).trans L;obtain⟨Sb,T⟩:=av (λl (hX:ez l H (((mi xs hd).take j).foldl et xs))=>tW l H N _ (n:=n) (by rw[JK];exact HN.Y) aa hX (T7 (λx F=>bm (HC x F) aa) (by simp[fU])) wY jq) (yB ht L);have rJ:Hid (((mi xs hd).take (j+1)).foldl et xs=et (((mi xs hd).take j).foldl et xs) t):=by unfold Hid;rw[eM ht,List.foldl_append];rfl
    have Ck:=Bc xs hd j;subst K zC;clear ht L jq tZ hz Ef pS c0 c1 b7 wY qm;obtain⟨G,bz⟩:∃G:Nat,G=lT y hd:=⟨_,rfl⟩
    rw[<-bz]at C HE T;clear bz;have i1:(t:Int)<n:=aa;obtain⟨tl,J⟩:=aw ((jW xs hd j).length);rw[<-J]at HT Ck ⊢;have Gf:=ae J;clear J;go_wp2_with fail;refine C.mono ?_;rintro e w5 ⟨rfl,W⟩;obtain⟨nD,iq,T9,S⟩:=bh (ah u W) (ah (ah Y u) W) (HW.gK aI W) (HT.ah W);clear W C b8;go_wp2_with fail;go_fit (HE _ iq);rintro e w6 ⟨rfl,fp⟩;obtain⟨Fz,Wx,PN⟩:=aS (aj (ah nD fp) (.cells #[t,y.seq,G,.int .i64 9,oZ] 188)) ((T9.gK aI fp).gK aI (aj (ai w6) (.cells #[t,y.seq,G,.int .i64 9,oZ] 188))) ((S.ah fp).alloc (.cells #[t,y.seq,G,.int .i64 9,oZ] 188));clear fp HE nD T9 S iq;have Yi:=Fz.size;go_wp2_with(at_builtin;refine bR _ rfl _ _ 157 rfl w3 188 5 40 (.agg #[oZ,oZ,oZ,oZ,oZ]) ie mL rF underlying157 pK rfl af _ (jW xs hd j) rfl PN w6 1 1 [⟨t,⟨y.seq,G,9,0⟩⟩] rfl rfl ?c4 ?c5 ?c6 ?c7 ?_)
    case c4=>exact Rd.lit w6 (ie ⟨t,⟨y.seq,G,9,0⟩⟩) _
    case c5=>rw[<-Gf.Y];simp;omega
    case c6=>rw[<-Gf.Y];simp;omega
    case c7=>simp at Yi ⊢;omega
    intro v7 w7 JL GL cy;clear cy;rw[<-T.Y]at JL;obtain⟨A7,c7,cv⟩:=JL.shape;subst cv;obtain⟨U,Cm,Si⟩:=aS (LK Wx PN GL) (aH.aW PN Fz GL Yi (aR _)) JL;clear JL GL Wx PN Fz Yi;have hX:ez w7 H (((mi xs hd).take j).foldl et xs):=by
     obtain⟨A9,c9,h9,_,ct⟩:=U.rdX;injection h9 with h9 h11 h12
     subst h9;exact ct
    have R:=ae (Sb w7 hX);clear hX;go_wp2_with fail;refine R.mono ?_;rintro e w8 ⟨v,rfl,A8,c8,rfl,a8,ve⟩;obtain⟨GM,b5,b6⟩:=aS (ah Cm ve) (Si.ah ve) a8;have YM:Hid (w.heap.size<=w7.heap.size):=bm Y.size Cm.size;clear a8 ve R Sb U Cm Si;go_wp2;go_roundw;case rel=>exact⟨j+1,A8,c8,A7,c7,aa,by go_num,rfl,rfl,by rw[rJ.Y];exact b6.bL YM,b5,GM⟩
    case measure=>simp[intOf];omega
   .have YN:j=m:=aa;subst YN;have Ca:(mi xs hd).take j=mi xs hd:=List.take_of_length_le (by have:=HM.Y;omega);rw[Ca]at HW;have hB:=ah Y u;have hq:=ku.ah u;have hk:=rI.ah u;have hO:=aK.ah j7 u;have HS:=ae Y.size;clear Ca;obtain⟨tl,J⟩:=aw ((jW xs hd j).length);rw[<-J]at HT ⊢;have Gf:=ae J;clear J;obtain⟨bN,cj,cu⟩:=ag.aF hq;obtain⟨cU,-,eB⟩:=ag.aF hk;obtain⟨HQ,HB,HO⟩:=aS hq hB hO;clear hq hk hB hO;go_wp2_with fail;obtain⟨I,iB⟩:=o7.one (v1:=[f,a,true,true,.slice h o d1]) HQ rfl;have vY:=I.own HO af af;have LD:=I.qR aI HW af af af af;have YH:aH _ w3 188 5 ie (.slice D tl P) (jW xs hd j):=I.own HT af af;have kN:Below w w (ax wr (w.heap.size+1+1) 0 [f,a,true,true,.slice h o d1]):=az aa _ _ _ HB;clear I cU eB bN cj cu;change bodyPost _ _ _ _ _ (ax wr (w.heap.size+1+1) 0 [f,a,true,true,.slice h o d1]);generalize ax wr (w.heap.size+1+1) 0 [f,a,true,true,.slice h o d1]=wz at *;have pJ:=λi=>ag.cell iB i;refine bodyPost_ret (v:=.tuple #[.agg #[f,a,true,true,.slice h o d1],.slice H n N,oZ,.slice D tl P]) ?_ rfl ?_
    .simp[results,results273,go_sem,pJ]
    .rw[HG.Y];have Ck:=Gf.Y;subst Ck;refine⟨h,d1,H,N,D,P,by rw[X.Y];rfl,⟨?_,?_,?_,LD,(aH.xS YH).2,?_,?_⟩,kN⟩
     .have:=X.Y;subst this;exact(aK.pw vY).2
     .intro b p _;subst p;exact pI vY
     .have:=(aK.cap vY).2;have:=X.Y;subst this;assumption
     .intro b p _;subst p;exact kz YH
     .have:=(aH.cap YH).2;exact this
theorem lV.row{xs:List Ch}(h:lV w A xs){x:Ch}(o:xs[j]?=some x):∃a B d,A=some a/\x.buf.length<=d/\bD w .i64 B x.buf /\
 w.cell? (a.add (j*5))=some (.int .i64 x.gen)/\w.cell? ⟨(a.add (j*5)).block,(a.add (j*5)).off+1,none⟩=some (.int .i64 x.cap)/\w.cell? ⟨(a.add (j*5)).block,(a.add (j*5)).off+2,none⟩=some (.bool x.used)/\w.cell? ⟨(a.add (j*5)).block,(a.add (j*5)).off+3,none⟩=some (.bool x.closed)/\w.cell? ⟨(a.add (j*5)).block,(a.add (j*5)).off+4,none⟩=some (.slice B x.buf.length d):=by
 obtain⟨a,q,r,k,b,l,p,hcell⟩:=jv.at_ af h (bT o)
 rw[o]at b
 injection b with b
 subst b
 obtain⟨B,d,rfl,n,m⟩:=l
 have i:=hcell 0 _ rfl
 have c:=hcell 1 _ rfl
 have e:=hcell 2 _ rfl
 have f:=hcell 3 _ rfl
 have g:=hcell 4 _ rfl
 rw[add_lit _ _ af]at c e f g
 exact⟨a,B,d,k,n,m.1,i,c,e,f,g⟩
def qb(c:dG)(A:Option Addr)(n k:Nat)(t e:Int):List Value:=[c.kind,c.threads,c.chans,c.cap,c.nodes,c.aP,c.aB,c.tags,c.bw,c.bn,.slice A n k,t,e]
structure dx (w:World) (base g:Nat) (T:TypeId) (tl:List Value) (h:Mo.Hl) (A1 A2 A3:Option Addr) (m1 m2 m3:Nat):Prop where
 blk:ag w g T (.int .i64 h.ak:: .slice A1 h.chans.length m1:: .slice A2 h.waits.length m2:: .slice A3 h.done.length m3::tl).toArray
 chans:Gw w base (.slice A1 h.chans.length m1) h.chans
 waits:j6 w base (.slice A2 h.waits.length m2) h.waits
 done:aH w base 64 4 fD (.slice A3 h.done.length m3) h.done
 low:base<=g
 ty:T≠3/\T≠101/\50≠T/\99≠T/\64≠T/\188≠T
abbrev C4 (w:World) (base g:Nat) (c:dG) (A:Option Addr) (n k:Nat) (t e:Int):=dx w base g 277 (qb c A n k t e)
structure GN (h:Mo.Hl):Prop where
 chans:h.chans.length<=8
 waits:h.waits.length<=19
 done:h.done.length<=19
 buf:∀x∈h.chans,x.buf.length<=90000
 cases:∀x∈h.waits,x.cases.length<=90000
 gen:∀x∈h.chans,0<=x.gen/\x.gen<=100000
theorem dx.more(H:dx w base g T tl h A1 A2 A3 m1 m2 m3)(e:Below w w w'):dx w' base g T tl h A1 A2 A3 m1 m2 m3:=⟨H.blk.ah e,H.chans.gK cd e,H.waits.gK aI e,H.done.ah e,H.low,H.ty⟩
theorem aD.GO{f:List α}{e:TypeId}(h:aD e m P w base S (.slice A n c) f):jv m P w S A f:=by
 obtain⟨d,g,b,_,a⟩:=h.rdX;injection b with b h11 h12
 subst b;exact a
theorem dx.xv(H:dx w base g T tl h A1 A2 A3 m1 m2 m3):lV w A1 h.chans:=H.chans.GO
theorem dx.GP(H:dx w base g T tl h A1 A2 A3 m1 m2 m3):ez w A2 h.waits:=H.waits.GO
theorem oM(w:World)(y:Int)(z:Option Addr)(J:Nat)(s:List Ch){u:Nat}(K:u=s.length)(o:lV w z s)(H I:Value)(F:List Wt)(E:List Rs)(f:Int) :
 Calls prog 267 #[.agg #[y,.slice z u J,H,I],f] w λe w'=>e=.returned (.tuple #[((bP ⟨y,s,F,E⟩ f).getD 0:Nat),.bool (bP ⟨y,s,F,E⟩ f).isSome])/\Below w w w':=by
 have Cn:=ae (λO=>xO O f)
 have i:(cJ f).2.2=true->0<=(cJ f).1/\(cJ f).1<8:=by
  unfold cJ;split
  .intro h;cases h
  .intro _;dsimp only;omega
 have b:Hid (bP ⟨y,s,F,E⟩ f=if(cJ f).2.2=false then none else match s[(cJ f).1.toNat]? with|none=>none|some x=>if x.used=true/\x.gen=(cJ f).2.1 then some (cJ f).1.toNat else none):=rfl
 generalize bP ⟨y,s,F,E⟩ f=r at *
 generalize cJ f=q at *
 obtain⟨n,c,N⟩:=q
 dsimp only at *
 obtain⟨t,l⟩:=av (λ(j:Nat) (x:Ch) a=>lV.row (o.gK cd (aj (ai w) (.cells #[y,.slice z u J,H,I] 45))) (j:=j) (x:=x) a) K
 clear K o
 have bJ:Hid (Below w w (w.alloc (.cells #[y,.slice z u J,H,I] 45))):=aj (ai w) _
 cases N with
 |false=>have o:r=none:=b.Y;subst o;clear i;exact YP
 |true =>
  obtain⟨G,L⟩:=i rfl;clear i;obtain⟨p,rfl⟩:∃p:Nat,n=(p:Int):=⟨n.toNat,aa⟩
  rw[fR]at b;by_cases k:p<u
  .obtain⟨x,a⟩:∃x,s[p]?=some x:=⟨_,cq (by rw[<-l.Y];exact k)⟩
   obtain⟨Q,B,d,D,_,_,R,v,m,A,C⟩:=t.Y p x a;have P:=ae a;have g:Hid (r=if x.used=true/\x.gen=c then some p else none):=by unfold Hid;rw[b.Y,au af,a]
   subst D;clear a v A C;have M:(p:Int)<u:=aa;cases hu:x.used with
   |false =>
    rw[hu]at m;have o:r=none:=by rw[g.Y,hu];rfl
    subst o;clear hu;exact YP
   |true =>
    rw[hu]at m;by_cases hg:x.gen=c
    .have o:r=some p:=by rw[g.Y,hu,ay ⟨rfl,hg⟩]
     subst o;have d1:(x.gen !=c)=false:=by simpa using hg
     exact abd
    .have o:r=none:=by rw[g.Y,au (λh=>hg h.2)]
     subst o;have d1:(x.gen !=c)=true:=by simpa using hg
     exact abd
  .have o:r=none:=by rw[b.Y,au af,List.getElem?_eq_none (by have:=l.Y;omega)]
   subst o;have M:(u:Int)<=p:=aa;exact YP
structure sM (w wr:World) (base g3 n3 m3:Nat) (L:List Mo.Rs):Prop where
 own:aH wr base 64 4 fD (.slice g3 n3 m3) L
 rest:∀b,b<w.heap.size->b≠g3->wr.heap[b]?=w.heap[b]?
 ext:Below base w wr
 size:w.heap.size<=wr.heap.size
 low:base<=g3
theorem sM.more{L:List Rs}(h:sM w wr base g3 n3 m3 L)(e:Below wr wr w')(f:base<=w.heap.size):sM w w' base g3 n3 m3 L:=⟨h.own.ah e,λb a c=>(e.block b (bW a h.size)).trans (h.rest b a c),h.ext.trans (e.mono (bm f h.size)),bm h.size e.size,h.low⟩
theorem aH.setRow{e:TypeId}{f:α->List Value}(p:∀x,(f x).length=m){o:List α}(h:aH w base e m f (.slice g n c) o)(s:i<o.length)(y:α)(h1:∀x,∀u∈f x,u.oneCell'=true) :
 aH (ax w g (i*m) (f y)) base e m f (.slice g n c) (o.set i y):=by
 have j:=h.cap.1
 subst j
 have h2:aH w base e m dF (.slice g o.length c) (o.map (jJ f p h1)):=aH.rows.2 h
 unfold aH at h2
 rw[fP]at h2
 have b:=tR (f y) w (i*m) _ h2
 have a:=uW (o.map (jJ f p h1)) i (jJ f p h1 y) (by simpa using s)
 have d:(jJ f p h1 y).val=f y:=rfl
 rw[d]at a
 rw[a, <-List.map_set]at b
 refine(aH.rows (h1:=p) (h2:=h1)).1 ?_
 unfold aH
 rw[fP,dN]
 exact b
theorem sM.put{L:List Rs}(h:sM w wr base g3 n3 m3 L)(e:i<L.length)(y:Rs):sM w (ax wr g3 (i*4) (fD y)) base g3 n3 m3 (L.set i y):=⟨h.own.setRow dC e y qH,λb c a=>(aM a _ _).trans (h.rest b c a),az h.low _ _ _ h.ext,by rw[bO];exact h.size,h.low⟩
def abe(w:World)(base f p o:Nat)(L:List Rs)(e:Ending)(s:World):Prop:=e=.returned (.tuple #[])/\sM w s base f p o L
theorem yC{d:List Rs}{e:List Mo.Told}{y:Mo.Told}(h:e[j]?=some y):fN d (e.take (j+1))=(fN d (e.take j)).set y.th y.res:=by unfold fN;rw[eM h,List.foldl_append];rfl
theorem ld(d:List Rs)(e:List Mo.Told):(fN d e).length=d.length:=by
 unfold fN;induction e generalizing d with
 |nil=>rfl
 |cons y e a=>rw[List.foldl_cons,a,dN]
theorem PO(w:World)(p:w.cell? ⟨g,3,none⟩=some (.slice g3 n3 m3))(z:g<w.heap.size)(F:g≠g3)(o:base<=w.heap.size)(d:List Rs)(s:sM w w base g3 n3 m3 d)(D:Option Addr)(Z:Nat)(e:List Mo.Told)(H:n=e.length)(hl:n<=100)(I:cN w ie D e)(E:∀b,D=some b->e≠[]->b.block≠g3)(J:∀x∈e,x.th<d.length) :
 Calls prog 274 #[.pointer g,.slice D n Z] w (abe w base g3 n3 m3 (fN d e)):=by
 obtain⟨P,v,Q,N⟩:=bh s H J (λ(wr:World) (L:List Rs) (h:sM w wr base g3 n3 m3 L)=>Rd.move (U:=λb=>b=g3) I h.rest (λB ha q=>E B ha (λhe=>q (by rw[he];rfl))))
 have A:=ae (λ(wr:World) (L:List Rs) (h:sM w wr base g3 n3 m3 L)=>(show wr.cell? ⟨g,3,none⟩=some (.slice g3 n3 m3)by
  have:=h.rest g z F;unfold World.cell? at p ⊢;dsimp only at p ⊢;rw[this];exact p))
 have G:n3=d.length:=s.own.cap.1
 have l:=ae G
 clear p H J I E s G F
 go_enter func274,ntmps274
 go_wp2
 go_loopw[8] (λi wr=>∃j:Nat,j<=n/\i=j/\Hid (sM w wr base g3 n3 m3 (fN d (e.take j)))) (λi _=>n-(intOf i).toNat)
 case atStart=>exact⟨0,aZ _,rfl,P⟩
 case round =>
  obtain⟨j,hj,rfl,a⟩:=hrel;by_cases m:j<n
  .obtain⟨B,y,hA,t,hcell⟩:=cN.at_ mL af (N wr _ a) (i:=j) (by rw[<-v.Y];exact m);have T:=hcell 0 _ rfl;have V:=hcell 1 _ rfl;have W:=hcell 2 _ rfl;have X:=hcell 3 _ rfl;have Y:=hcell 4 _ rfl;rw[add_zero]at T;rw[add_lit _ _ af]at V W X Y;subst hA;have f:y.th<n3:=by rw[l.Y];exact Q.Y y (bo t)
   obtain⟨O,C⟩:=av (yC (d:=d) t) (a.more (aj (ai wr) (.cells #[y.th,y.res.seq,y.res.cs,y.res.code,y.res.value] 188)) o);have r:(wr.alloc (.cells #[y.th,y.res.seq,y.res.cs,y.res.code,y.res.value] 188)).cell? ⟨g,3,none⟩=_:=A.Y _ _ C;have aq:g3<wr.heap.size:=by have:=kz a.own;exact this.lt
   have B8:=bW z a.size;have S:=A.Y _ _ a;obtain⟨K,c⟩:∃K,(fN d (e.take j))[y.th]?=some K:=⟨_,cq (by rw[ld, <-l.Y];exact f)⟩
   have q0:=aH.cells dC a.own c (j:=0) rfl;have q1:=aH.cells dC a.own c (j:=1) rfl;have q2:=aH.cells dC a.own c (j:=2) rfl;have q3:=aH.cells dC a.own c (j:=3) rfl;rw[Nat.add_zero]at q0;have f0:=aH.frozen a.own (y.th*4);have f1:=aH.frozen a.own (y.th*4+1);have f2:=aH.frozen a.own (y.th*4+2);have f3:=aH.frozen a.own (y.th*4+3);have t0:(0:Int)<=(y.th:Int):=aa;have t1:(y.th:Int)<(n3:Int):=aa;have k:Hid (y.th<(fN d (e.take j)).length):=by unfold Hid;rw[ld, <-l.Y];exact f
   clear t hcell c r;go_wp2_with fail;go_quiet(fail);go_wp2;go_region;all_goals
    go_wp2;go_roundw;case rel=>exact⟨j+1,aa,by go_num,by rw[O.Y];exact(C.more (bZ (ai _) _) o).put k y.res⟩
    case measure=>simp[intOf];omega
  .have M:j=n:=aa;subst M;have u:=a.Y;rw[List.take_of_length_le (by have:=v.Y;omega)]at u;have R:=ae u;clear u;go_wp2;go_end0;exact⟨rfl,R⟩
theorem GR(w:World)(A:Option Addr)(c:Nat)(o:List Int){m:Int}(p:n=o.length)(E:n<=100000)(s:bD w .i64 A o)(u:jN o m=true) :
 Calls prog 80 #[.slice A n c,m] w λe w'=>e=.returned true/\w=w':=by
 obtain⟨v,d⟩:=Av u
 have d1:decide ((n:Int)<=m)=true:=cg (by omega)
 obtain⟨l,q,r,j⟩:=bh p s d (λx a b=>nk w x a b)
 clear p s u d v
 go_enter func80,ntmps80
 go_wp2
 go_loop[9] (λi=>∃k:Nat,k<=n/\i=k) (λi=>n-(intOf i).toNat)
 case atStart=>exact⟨0,aZ _,rfl⟩
 case round =>
  obtain⟨k,B,rfl⟩:=hrel;by_cases f:k<n
  .obtain⟨y,x,t,d,z⟩:=bD.at_ q.Y (i:=k) (by rw[<-l.Y];exact f);subst t;have h:=r.Y x (cH d);have g:=ae (j.Y x 0 4294967295);rw[show iN x 0 4294967295=true from cg h]at g;clear d h;go_wp2_with fail;go_fit g.Y;rintro e w' ⟨rfl,rfl⟩;go_wp2;go_round;case rel=>exact⟨k+1,by omega,by go_num⟩
   case measure=>simp[intOf];omega
  .go_wp2;go_ret;exact⟨rfl,rfl⟩
theorem GS(w:World)(A:Option Addr)(c:Nat)(o:List Rs){m:Int}(s:n=o.length)(E:n<=100000)(u:cN w fD A o)(f:pN o m=true) :
 Calls prog 79 #[.slice A n c,m] w λe w'=>e=.returned true/\Below w w w':=by
 unfold pN at f
 simp only[eT,eI,List.all_eq_true]at f
 have d1:((n:Int)==m)=true:=by rw[beq_iff_eq];omega
 obtain⟨t,v,y⟩:=aS s u f.2
 clear s u f
 go_enter func79,ntmps79
 go_wp2
 go_loopw[9] (λi wr=>∃k:Nat,k<=n/\i=k/\Hid (Below w w wr)) (λi _=>n-(intOf i).toNat)
 case atStart=>exact⟨0,aZ _,rfl,ai w⟩
 case round =>
  obtain⟨k,D,rfl,b⟩:=hrel;by_cases d:k<n
  .obtain⟨C,x,B,r,a⟩:=cN.at_ dC (by decide) (v.below b) (i:=k) (by rw[<-t.Y];exact d);subst B;have h:=a 0 _ rfl;have j:=a 1 _ rfl;have l:=a 2 _ rfl;have p:=a 3 _ rfl;simp only[add_zero]at h;rw[add_lit _ _ (by decide)]at j l p;have g:=ae (uL (wr.alloc (.cells #[x.seq,x.cs,x.code,x.value] 64)) x.seq x.cs x.code x.value);rw[show nP x.seq x.cs x.code x.value=true from y.Y x (cH r)]at g;clear a r;go_wp2_with fail;go_fit g.Y;rintro e w' ⟨rfl,q⟩;have z:=ae (ah (aj b (.cells #[x.seq,x.cs,x.code,x.value] 64)) q);clear q h j l p;go_wp2;go_roundw;case rel=>exact⟨k+1,by omega,by go_num,z⟩
   case measure=>simp[intOf];omega
  .go_wp2;go_ret;exact⟨rfl,b⟩
theorem Bd(w:World)(q:Rq)(A:Option Addr)(c:Nat)(o:n=q.cases.length)(O:n<=100000)(p:cN w bj A q.cases) :
 Calls prog 31 #[.agg #[q.kind,q.arg,q.value,q.dflt,.slice A n c]] w λe w'=>e=.returned (Mo.bt q)/\Below w w w':=by
 by_cases a:(1<=q.kind/\q.kind<=9)/\(0<=q.arg/\q.arg<=65535)/\(0<=q.value/\q.value<=4294967295)/\n<=3
 .have t:Hid (Mo.bt q=q.cases.all Mo.kV):=by
   unfold Hid Mo.bt Mo.fits;rw[cg a.1,cg (by omega),cg (by omega),cg (by omega)];rfl
  obtain⟨⟨F,G⟩,⟨H,I⟩,⟨J,K⟩,L⟩:=a
  obtain⟨s,z⟩:=av o p
  clear o p
  go_enter func31,ntmps31
  go_wp2_with fail
  go_loopw[42] (λi wr=>∃k:Nat,k<=n/\i=k/\Hid (Below w w wr)/\Hid (∀x∈q.cases.take k,Mo.kV x=true)) (λi _=>n-(intOf i).toNat)
  case atStart=>exact⟨0,aZ _,rfl,aj (ai w) _,λx h=>by cases h⟩
  case round =>
   obtain⟨k,N,rfl,g,r⟩:=hrel;by_cases m:k<n
   .obtain⟨M,x,E,d,a⟩:=cN.at_ cM (by decide) (z.below g) (i:=k) (by rw[<-s.Y];exact m);subst E;have B:=a 0 _ rfl;have C:=a 1 _ rfl;have D:=a 2 _ rfl;simp only[add_zero]at B;rw[add_lit _ _ (by decide)]at C D;by_cases j:(1<=x.1/\x.1<=2)/\(0<=x.2.1/\x.2.1<=65535)/\(0<=x.2.2/\x.2.2<=4294967295)
    .have b:Hid (∀y∈q.cases.take (k+1),Mo.kV y=true):=λy f=>by
      rw[List.take_add_one,d]at f
      rcases List.mem_append.1 f with f|f
      .exact r.Y y f
      .cases f with
       |head=>exact jH.2 ⟨by omega,by omega,by omega⟩
       |tail _ h=>cases h
     clear d a
     obtain⟨⟨P,Q⟩,⟨R,S⟩,⟨T,U⟩⟩:=j
     go_wp2_with fail
     go_roundw
     case rel=>exact⟨k+1,by omega,by go_num,aj g _,b⟩
     case measure=>simp[intOf];omega
    .have l:Hid (Mo.bt q=false):=by
      rw[t.Y];exact List.all_eq_false.2 ⟨x,cH d,λh=>j (by have:=jH.1 h;omega)⟩
     have b:=ae j
     clear d a j
     go_wp2_with fail
     all_goals first
      |(go_ret;exact⟨bK l.Y.symm,aj g _⟩)
      |(exfalso;exact b.Y (by omega))
   .have v:Hid (Mo.bt q=true):=by
     rw[t.Y,List.all_eq_true];exactλx d=>r.Y x (by rw[List.take_of_length_le (by have:=s.Y;omega)];exact d)
    go_wp2_with fail
    go_ret
    exact⟨bK v.Y.symm,g⟩
 .have l:Hid (Mo.bt q=false):=by
   unfold Hid;rw[<-Bool.not_eq_true,gY];exactλh=>a (by omega)
  have u:=ae a
  clear a o p
  go_enter func31,ntmps31
  go_wp2_with fail
  all_goals first
   |(go_ret;exact⟨bK l.Y.symm,aj (ai w) _⟩)
   |(exfalso;exact u.Y (by omega))
def Be(g e:Nat)(h:Hl)(f o p:Option Addr)(s u y:Nat):Prop:=g<e/\(∀b,(Value.slice f h.chans.length s).ownBlock=some b->b<e)/\(∀b,(Value.slice o h.waits.length u).ownBlock=some b->b<e)/\∀b,(Value.slice p h.done.length y).ownBlock=some b->b<e
theorem aD.lt{e:TypeId}{xs:List α}(h:aD e m P w base S v xs)(f:v.ownBlock=some b):base<=b/\b<w.heap.size:=by obtain⟨rows,c,a,d⟩:=h;exact bk a f
theorem dx.nY(H:dx w base g T tl h A1 A2 A3 m1 m2 m3):Be g w h A1 A2 A3 m1 m2 m3:=⟨H.blk.lt,λ_ a=>(H.chans.lt a).2,λ_ a=>(H.waits.lt a).2,λ_ a=>(bk H.done a).2⟩
theorem dx.b9(H:dx w base g T tl h A1 A2 A3 m1 m2 m3){e:Nat}(E:Be g e h A1 A2 A3 m1 m2 m3)(hq:e<=q){ty:TypeId}{I:Array Value}(F:ag w q ty I)(f:ty≠3)(u:ty≠101)(o:Nat)(vs:List Value):dx (ax w q o vs) base g T tl h A1 A2 A3 m1 m2 m3:=by
 obtain⟨l,i,j,k⟩:=E;have c:∀b,eP w b->b≠q:=λb a d=>by subst d;exact eP.not F f u a
 refine⟨aX H.blk aa _ _,?_,?_,eV (λb a=>by have:=k b a;omega) _ _ _ _ H.done,H.low,H.ty⟩
 .exact(aD.move cd H.chans (λb a=>aM (c b a) _ _) (λb a=>aM (by have:=i b a;omega) _ _)).mono cd (λb a=>fB _ _ _ a)
 .exact(aD.move aI H.waits (λb a=>aM (c b a) _ _) (λb a=>aM (by have:=j b a;omega) _ _)).mono aI (λb a=>fB _ _ _ a)
theorem dx.Eg{e:Nat}(H:dx w base g T tl h e A2 A3 m1 m2 m3)(z:i<h.chans.length)(y:Ch)(B:Option Addr)(d:Nat)(s:y.buf.length<=d)(E:bD w .i64 B y.buf)(o:∀b,B=some b->y.buf≠[]->Ty w 3 b.block) :
 dx (ax w e (i*5) [y.gen,y.cap,y.used,y.closed,.slice B y.buf.length d]) base g T tl {h with chans:=h.chans.set i y} e A2 A3 m1 m2 m3:=by
 obtain⟨r,hg,q⟩:=H.chans.ty
 have k:¬eP w e:=eP.not hg af af
 have m:g≠e:=by exact YQ
 refine⟨?_,?_,?_,?_,H.low,H.ty⟩
 .rw[dN];exact aX H.blk m _ _
 .rw[dN];exact(H.chans.Gm cd z _ rfl (by intro u j;simp at j;rcases j with rfl|rfl|rfl|rfl|rfl<;>rfl) k (y:=y) ⟨B,d,rfl,s,E,λl p f=>.inl (o l p f)⟩).mono cd (λb a=>fB _ _ _ a)
 .exact(aD.move aI H.waits (λb a=>aM (λc=>by subst c;exact k a) _ _) (λb a=>aM (λc=>by
   subst c
   obtain⟨rows,_,n,_⟩:=H.waits
   exact eh n hg af a.symm) _ _)).mono aI (λb a=>fB _ _ _ a)
 .exact eV (λb a c=>by subst c;exact eh H.done hg af a.symm) _ _ _ _ H.done
theorem yD(A:Option Addr)(n m f e:Nat):(Value.slice A n m).ownBlock=(Value.slice A f e).ownBlock:=by cases A<;>rfl
def gu(w:World)(g:Nat)(v1 v3:Value)(e:World):Prop:=∀b,b<w.heap.size->b≠g->v1.ownBlock≠some b->v3.ownBlock≠some b->e.heap[b]?=w.heap[b]?
def FrH(w:World)(g:Nat)(e:World):Prop:=∀v1 v3,w.cell? ⟨g,1,none⟩=some v1->w.cell? ⟨g,3,none⟩=some v3->gu w g v1 v3 e
section
variable{v1:Value}
theorem gu.ext(h:Below w w w1):gu w g v1 v3 w1:=λb a _ _ _=>h.block b a
theorem gu.more(h:gu w g v1 v3 w1)(u:w.heap.size<=w1.heap.size)(f:Below w1 w1 w2):gu w g v1 v3 w2:=λb a c d e=>(f.block b aa).trans (h b a c d e)
theorem gu.drew(h:gu w g v1 v3 w1):gu w g v1 v3 w1.drew:=h
theorem gu.Co(h:gu w g v1 v3 w1)(o:Nat)(vs:List Value):gu w g v1 v3 (ax w1 g o vs):=λb c a d e=>(aM a _ _).trans (h b c a d e)
theorem gu.GU(h:gu w g v1 v3 w1)(p:v1.ownBlock=some q)(o:Nat)(vs:List Value):gu w g v1 v3 (ax w1 q o vs):=λb c d a f=>(aM (λe=>a (by rw[p,e])) _ _).trans (h b c d a f)
theorem gu.new(h:gu w g v1 v3 w1)(hq:w.heap.size<=q)(o:Nat)(vs:List Value):gu w g v1 v3 (ax w1 q o vs):=λb a c d e=>(aM aa _ _).trans (h b a c d e)
theorem gu.tell(h:gu w g v1 v3 w1)(s:w.heap.size<=w1.heap.size)(o:∀b,b<w1.heap.size->some b≠v.ownBlock->w2.heap[b]?=w1.heap[b]?)(p:v.ownBlock=v3.ownBlock):gu w g v1 v3 w2:=λb c d f a=>(o b aa (λe=>a (by rw[<-p,e]))).trans (h b c d f a)
end
theorem dx.PQ(H:dx w base g T tl h A1 A2 A3 m1 m2 m3)(e:World)(f:gu w g (.slice A1 h.chans.length m1) (.slice A3 h.done.length m3) e):FrH w g e:=by
 intro c d a b;rw[H.blk.cell 1]at a;rw[H.blk.cell 3]at b;injection a with a
 injection b with b
 subst a;subst b;exact f
theorem dx.frX(H:dx w base g T tl h A1 A2 A3 m1 m2 m3)(e:FrH w g w'):gu w g (.slice A1 h.chans.length m1) (.slice A3 h.done.length m3) w':=e _ _ (H.blk.cell 1) (H.blk.cell 3)
def HvE(base g:Nat)(T:TypeId)(z:List Value)(o s:Option Addr)(u y:Nat)(p:Hl×Rs)(w:World)(e:Ending)(f:World):Prop:=e=.returned (.agg #[p.2.seq,p.2.cs,p.2.code,p.2.value])/\(∃A2 m2,dx f base g T z p.1 o A2 s u m2 y)/\Below base w f/\FrH w g f
abbrev Ua (base g:Nat) (c:dG) (A:Option Addr) (n k:Nat) (t e:Int):=HvE base g 277 (qb c A n k t e)
theorem GV{B:Nat}(h:Below B a w)(e:B<=w.heap.size)(o:Obj):Below B a (w.alloc o):=h.alloc e o
def Bf(h:Hl)(f:Int):Sum Nat Int->Hl×Rs
 |.inl i=>({h with chans:=h.chans.set i ⟨(fO h i).gen+1,f,true,false,[]⟩},⟨0,0,0,jM i ((fO h i).gen+1)⟩)
 |.inr e=>(h,bg e)
theorem wj{b:Bool}{x:Ch}(f:l[i]?=some x)(e:x.used=true):eK bn l i b (k+1)=eK bn l (i+1) b k:=by rw[eK];rw[f];dsimp only;rw[ay e]
theorem ue{b:Bool}{x:Ch}(o:l[i]?=some x)(f:x.used=false)(e:min bn 4095<=x.gen):eK bn l i b (k+1)=eK bn l (i+1) true k:=by rw[eK];rw[o];dsimp only;rw[au (by rw[f];decide),ay e]
theorem yE{b:Bool}{x:Ch}(o:l[i]?=some x)(f:x.used=false)(e:¬min bn 4095<=x.gen):eK bn l i b (k+1)=.inl i:=by rw[eK];rw[o];dsimp only;rw[au (by rw[f];decide),au e]
section
variable(w:World){c:Mo.dG}{t:Int}
theorem PR(H:C4 w base g c A n k t sq h A1 A2 A3 m1 m2 m3)(Z:GN h)(nA:c.bn<=4095)(f:Int) :
 Calls prog 258 #[.pointer g,f] w (Ua base g c A n k t sq A1 A3 m1 m3 (lH c h f) w):=by
 have u:Hid (Below w w (w.alloc ke)):=aj (ai w) _
 have gC:Hid (ag (w.alloc ke) w 64 #[oZ,oZ,oZ,oZ]):=ag.new _ _ _
 obtain⟨rH,qj,HH,uf⟩:=bh (H.more u) H.nY H H.PQ
 have y:base<=w.heap.size:=bm H.low (Nat.le_of_lt H.blk.lt)
 obtain⟨E,-,Y⟩:=ag.aF rH.blk
 unfold qb at E
 have B8:g<w.heap.size:=H.blk.lt
 have lR:=ae Z
 clear H Z
 by_cases aC:f<0\/c.cap<f
 .have I:Hid (lH c h f=(h,bg 1)):=by unfold Hid lH;rw[ay aC]
  rw[I.Y];have a6:Hid (Below base w (w.alloc (qh 0 0 1 0))):=(aj (ai w) _).mono y;have a7:=ae (HH.more (aj (ai w) (qh 0 0 1 0)));have kL:Ua base g c A n k t sq A1 A3 m1 m3 (h,bg 1) w (.returned (.agg #[oZ,oZ,.int .i64 1,oZ])) (w.alloc (qh 0 0 1 0)):=⟨rfl,⟨_,_,a7⟩,a6,uf _ (.ext (aj (ai w) _))⟩
  by_cases h0:f<0
  .exact abg
  .have h1:c.cap<f:=aC.resolve_left h0;exact abg
 .have a1:¬f<0:=λh=>aC (.inl h);have a2:¬c.cap<f:=λh=>aC (.inr h);obtain⟨R,F⟩:=aw (eK c.bn h.chans 0 false h.chans.length);have I:Hid (lH c h f=Bf h f R):=by
   unfold Hid lH;rw[au aC,F];unfold Bf;rfl
  have HR:=ae F.symm;clear aC F;go_enter func258,ntmps258;go_wp2_with fail;obtain⟨m,kR⟩:=aw h.chans.length;have iF:=ae kR;rw[<-kR]at HR ⊢;have bE:m<=8:=by rw[kR];exact lR.chans
  clear kR;have b5:Hid (C4 (w.alloc ke) base g c A n k t sq h A1 A2 A3 m1 m2 m3):=rH.Y;go_loopw[5,26] (λb i wr=>∃(j:Nat) (s:Bool),j<=m/\i=j/\b=s/\Hid (Below (w.heap.size+1) (w.alloc ke) wr)/\Hid (eK c.bn h.chans j s (m-j)=R)) (λ_ i _=>m-(intOf i).toNat);case atStart=>exact⟨0,false,aZ _,rfl,rfl,Below.refl _ _,by unfold Hid;rw[Nat.sub_zero];exact HR.Y⟩
  case round =>
   obtain⟨j,s,hj,rfl,rfl,a,S⟩:=hrel;have z:Below (w.alloc ke).heap.size (w.alloc ke) wr:=a.mono aA;obtain⟨l,D⟩:=av (rH.more z) (gC.ah z);obtain⟨E,-,Y⟩:=ag.aF l.blk;unfold qb at E;clear z;by_cases bz:j<m
   .obtain⟨x,hx⟩:∃x,h.chans[j]?=some x:=⟨_,cq (by rw[<-iF.Y];exact bz)⟩
    obtain⟨ad,B,d,hA,Eh,kB,c0,c1,L,c3,V⟩:=lV.row l.xv hx;have b6:=lR.gen x (bo hx);have C:=ae hx;subst hA;clear hx Eh kB;generalize x.buf.length=U at V;have G:m-j=(m-(j+1))+1:=aa;rcases r:x.used with _|_
    .rw[r]at L;by_cases zF:c.bn<=x.gen
     .have HN:Hid (eK c.bn h.chans (j+1) true (m-(j+1))=R):=by
       unfold Hid;rw[<-S.Y,G,ue C.Y r aa]
      have a3:¬4095<c.bn:=aa
      have d1:decide (c.bn<=x.gen)=true:=cg zF
      clear r G zF
      go_wp2_with fail
      go_quiet(fail)
      go_wp2
      go_roundw
      case rel=>exact⟨j+1,true,aa,by go_num,rfl,bZ (GV a (by have:=a.size;simp at this;omega) _) _,HN⟩
      case measure=>simp[intOf];omega
     .obtain⟨o,mm,p,a8,P⟩:=l.chans.form (by have:=bo C;intro he;rw[he]at this;cases this);injection p with e1 e2 e3
      injection e1 with e1
      subst e1 e3;clear e2;have F:R=.inl j:=by rw[<-S.Y,G,yE C.Y r aa]
      have O:fO h j=x:=by unfold fO;rw[ew,C.Y];rfl
      have wg:Hid (lH c h f=({h with chans:=h.chans.set j ⟨x.gen+1,f,true,false,[]⟩},⟨0,0,0,jM j (x.gen+1)⟩)):=by unfold Hid;rw[I.Y,F];unfold Bf;dsimp only;rw[O]
      have f0:=l.chans.bq (j*5);have f1:=l.chans.bq (j*5+1);have f2:=l.chans.bq (j*5+2);have f3:=l.chans.bq (j*5+3);have f4:=l.chans.bq (j*5+4);rw[lU,Nat.zero_add]at c0 c1 L c3 V;dsimp only at c1 L c3 V;have a3:¬4095<c.bn:=aa;have d1:decide (c.bn<=x.gen)=false:=bF zF;have e5:IntKind.i64.wrap (x.gen+1)=x.gen+1:=bH _ aa;have t0:(0:Int)<=(j:Int):=aa;have t1:(j:Int)<(m:Int):=aa;have aq:=ae (λwx=>Ds wx j (x.gen+1));have t2:j<h.chans.length:=bT C;clear r G zF F O;go_wp2_with fail;go_quiet(fail);go_wp2_with fail;clear d1 a3;go_region;all_goals
       go_wp2_with fail;have zG:Be g w {h with chans:=h.chans.set j ⟨x.gen+1,f,true,false,[]⟩} o A2 A3 m1 m2 m3:=by unfold Be;dsimp only;rw[dN];exact qj.Y
       have M:=bZ (aj (ai wr) (.cells #[x.gen,x.cap,false,x.closed,.slice B U d] 50)) (n:=nq+1);have N:=l.more M;have vS:=D.ah M;have LM:o<w.heap.size:=qj.2.1 o rfl;have Wy:=N.Eg (i:=j) (bT C) ⟨x.gen+1,f,true,false,[]⟩ none 0 (aR _) (bD.nil _ _ _) (λb Z=>by cases Z);have zx:=aX vS (b:=w.heap.size) (g:=o) aa [.int .i64 (x.gen+1),f,true,false,oN] (j*5);have xi:Below base w (ax (World.drewN (wr.alloc (.cells #[x.gen,x.cap,false,x.closed,.slice B U d] 50)) (nq+1)) o (j*5) [.int .i64 (x.gen+1),f,true,false,oN]):=az a8 _ _ _ ((u.mono y).trans ((a.mono aa).trans (M.mono (by have:=a.size;simp at this;omega))));have rW:=ae (gu.GU (q:=o) (v1:=.slice o h.chans.length m1) (v3:=.slice A3 h.done.length m3) (g:=g) (gu.ext (u.trans ((a.mono (bM _)).trans (M.mono (by have:=a.size;simp at this;omega))))) rfl (j*5) [.int .i64 (x.gen+1),f,true,false,oN]);change Calls _ _ _ (ax (World.drewN (wr.alloc (.cells #[x.gen,x.cap,false,x.closed,.slice B U d] 50)) (nq+1)) o (j*5) [.int .i64 (x.gen+1),f,true,false,oN]) _;clear M N vS E Y c0 c1 L c3 V f0 f1 f2 f3 f4 t0 t1 t2 P;generalize ax (World.drewN (wr.alloc (.cells #[x.gen,x.cap,false,x.closed,.slice B U d] 50)) (nq+1)) o (j*5) [.int .i64 (x.gen+1),f,true,false,oN]=wy at *;obtain⟨lM,iG,bU,J⟩:=bh Wy zx xi zG;clear Wy zx xi zG;go_fit (aq _);rintro e wz ⟨rfl,rfl⟩;generalize jM j (x.gen+1)=p at wg ⊢;clear e5;obtain⟨T,W,X⟩:=ag.aF iG;go_wp2_with fail;have Q:=aY (vs:=[oZ,oZ,oZ,p]) iG rfl;have Aj:=lM.b9 J (aR _) iG af af 0 [oZ,oZ,oZ,p];have kN:=az y [oZ,oZ,oZ,p] _ 0 bU;have Ak:=uf.Y _ (rW.new (q:=w.heap.size) (aR _) 0 [oZ,oZ,oZ,p]);change bodyPost _ _ _ _ _ (ax wy w 0 [oZ,oZ,oZ,p]);clear T W X;generalize ax wy w 0 [oZ,oZ,oZ,p]=wz at *;have fy:=λi=>ag.cell Q i;refine bodyPost_ret (v:=.agg #[oZ,oZ,oZ,p]) ?_ rfl ?_
       .exact YR
       .exact PS
    .rw[r]at L;have HN:Hid (eK c.bn h.chans (j+1) s (m-(j+1))=R):=by
      unfold Hid;rw[<-S.Y,G,wj C.Y r]
     clear r G;go_wp2;go_roundw;case rel=>exact⟨j+1,s,aa,by go_num,rfl,GV a (by have:=a.size;simp at this;omega) _,HN⟩
     case measure=>simp[intOf];omega
   .have uY:m-j=0:=aa;have K:=S.Y;rw[uY]at K;obtain⟨T,W,X⟩:=ag.aF D;clear uY;rcases s with _|_
    .have rB:Hid (R=.inr 6):=by unfold Hid;rw[<-K];unfold eK;rfl
     clear K;go_wp2_with fail;have Q:=aY (vs:=[oZ,oZ,.int .i64 6,oZ]) D rfl;have Aj:=l.b9 qj (aR _) D af af 0 [oZ,oZ,.int .i64 6,oZ];have kN:Below base w (ax wr w 0 [oZ,oZ,.int .i64 6,oZ]):=az y _ _ _ ((u.mono y).trans (a.mono aa));have Ak:=uf.Y _ ((gu.ext (u.trans (a.mono (bM _)))).new (q:=w.heap.size) (aR _) 0 [oZ,oZ,.int .i64 6,oZ]);change bodyPost _ _ _ _ _ (ax wr w 0 [oZ,oZ,.int .i64 6,oZ]);clear T W X E Y;generalize ax wr w 0 [oZ,oZ,.int .i64 6,oZ]=wz at *;have fy:=λi=>ag.cell Q i;refine bodyPost_ret (v:=.agg #[oZ,oZ,.int .i64 6,oZ]) ?_ rfl ?_
     .exact YR
     .rw[I.Y,rB.Y];exact⟨rfl,⟨_,_,Aj⟩,kN,Ak⟩
    .have rB:Hid (R=.inr 7):=by unfold Hid;rw[<-K];unfold eK;rfl
     clear K;go_wp2_with fail;have Q:=aY (vs:=[oZ,oZ,.int .i64 7,oZ]) D rfl;have Aj:=l.b9 qj (aR _) D af af 0 [oZ,oZ,.int .i64 7,oZ];have kN:Below base w (ax wr w 0 [oZ,oZ,.int .i64 7,oZ]):=az y _ _ _ ((u.mono y).trans (a.mono aa));have Ak:=uf.Y _ ((gu.ext (u.trans (a.mono (bM _)))).new (q:=w.heap.size) (aR _) 0 [oZ,oZ,.int .i64 7,oZ]);change bodyPost _ _ _ _ _ (ax wr w 0 [oZ,oZ,.int .i64 7,oZ]);clear T W X E Y;generalize ax wr w 0 [oZ,oZ,.int .i64 7,oZ]=wz at *;have fy:=λi=>ag.cell Q i;refine bodyPost_ret (v:=.agg #[oZ,oZ,.int .i64 7,oZ]) ?_ rfl ?_
     .exact YR
     .rw[I.Y,rB.Y];exact⟨rfl,⟨_,_,Aj⟩,kN,Ak⟩
end
section
variable(w:World)
theorem LN(x:Int):Calls prog 215 #[.int .u64 x] w λe w'=>e=.returned (.tuple #[.int .u64 x,true])/\w=w':=by go_enter func215,ntmps215;go_wp2;go_ret2;exact⟨rfl,rfl⟩
theorem GW(x y:Int)(b:Nat)(f:w.cell? ⟨b,0,none⟩=some (.int .u64 y)):Calls prog 216 #[.int .u64 x,.pointer b] w λe w'=>e=.returned (.tuple #[.int .u64 y,true])/\w=w':=by go_enter func216,ntmps216;go_wp2;go_ret2;exact⟨rfl,rfl⟩
theorem PT(x y:Int)(b:Nat)(f:w.cell? ⟨b,0,none⟩=some (.int .u64 y)):Calls prog 196 #[.int .u64 x,.pointer b] w λe w'=>e=.returned (.tuple #[.int .u64 (IntKind.u64.wrap (x+y)),true])/\w=w':=by go_enter func196,ntmps196;go_wp2;go_ret2;exact⟨rfl,rfl⟩
theorem LP(x f y:Int)(b c:Nat)(o:w.cell? ⟨b,0,none⟩=some (.int .u64 f))(p:w.cell? ⟨c,0,none⟩=some (.int .u64 y)):Calls prog 222 #[.int .u64 x,.pointer b,.pointer c] w λe w' =>
 e=.returned (.tuple #[.int .u64 (if x=f then y else x),(x==f)])/\w=w':=by
 by_cases h:x=f
 .subst h;go_enter func222,ntmps222;go_wp2;go_ret2;exact⟨aA,rfl⟩
 .have a:(x !=f)=true:=by simpa using h
  have H:=ae h;clear h;go_enter func222,ntmps222;go_wp2;go_ret2;have:=H.Y;exact⟨by simp[this],rfl⟩
theorem PU(x f y:Int)(b c:Nat)(o:Int)(s:Bool)(h:Hid ((if x=f then y else x)=o/\(x==f)=s))(u:w.cell? ⟨b,0,none⟩=some (.int .u64 f))(z:w.cell? ⟨c,0,none⟩=some (.int .u64 y)):Calls prog 222 #[.int .u64 x,.pointer b,.pointer c] w λe w' =>
 e=.returned (.tuple #[.int .u64 o,s])/\w=w':=by
 have k:=LP w x f y b c u z
 rw[h.Y.1,h.Y.2]at k
 exact k
def ug(w:World)(base g:Nat)(s o f:Value)(L:List Int)(G:List Acc)(C:List Int)(u:Bool)(e:World):Prop :=∃a c,eD e base g s a c L G C u/\(∀b,a.ownBlock=some b->o.ownBlock=some b\/w<=b)/\(∀b,c.ownBlock=some b->f.ownBlock=some b\/w<=b)/\Rest w e g s o f/\Below base w e
def uh(e:Bool)(G:List Acc)(a:Acc):List Acc:=if e=true then G++[a]else G
def abh(w:World)(f:FuncId)(e:Array Value)(x o:Int)(s:Bool):Prop :=
 (f=215/\e=#[]/\Hid (x=o/\true=s))\/(∃b,f=216/\e=#[.pointer (some ⟨b,0,none⟩)]/\w.cell? ⟨b,0,none⟩=some (.int .u64 o)/\Hid (true=s)) \/
 (∃b y,f=196/\e=#[.pointer (some ⟨b,0,none⟩)]/\w.cell? ⟨b,0,none⟩=some (.int .u64 y)/\Hid (IntKind.u64.wrap (x+y)=o/\true=s)) \/
 (∃b c a y,f=222/\e=#[.pointer (some ⟨b,0,none⟩),.pointer (some ⟨c,0,none⟩)]/\w.cell? ⟨b,0,none⟩=some (.int .u64 a)/\w.cell? ⟨c,0,none⟩=some (.int .u64 y)/\Hid ((if x=a then y else x)=o/\(x==a)=s))
theorem PV(x f:Int)(o:Bool)(h:Hid (x=f/\true=o)):Calls prog 215 #[.int .u64 x] w λe w'=>e=.returned (.tuple #[.int .u64 f,o])/\w=w':=by obtain⟨a,b⟩:=h.Y;subst a b;exact LN w _
theorem LQ(x y:Int)(b:Nat)(f:Bool)(h:Hid (true=f))(o:w.cell? ⟨b,0,none⟩=some (.int .u64 y)):Calls prog 216 #[.int .u64 x,.pointer b] w λe w'=>e=.returned (.tuple #[.int .u64 y,f])/\w=w':=by have a:=h.Y;subst a;exact GW w x y b o
theorem Ub(x y f:Int)(b:Nat)(o:Bool)(h:Hid (IntKind.u64.wrap (x+y)=f/\true=o))(s:w.cell? ⟨b,0,none⟩=some (.int .u64 y)):Calls prog 196 #[.int .u64 x,.pointer b] w λe w'=>e=.returned (.tuple #[.int .u64 f,o])/\w=w':=by obtain⟨a,c⟩:=h.Y;subst a c;exact PT w x y b s
theorem xw(base g:Nat)(vl E F:Value)(L:List Int)(G:List Acc)(C:List Int)(R:Bool)(o s z ol X:Int)(k:Nat)(V:Bool)(x f:Int)(u:Bool)(fn:FuncId)(cp:Array Value)(h:eD w base g vl E F L G C R)(hC:C.length<=64)(hG:G.length<=1000000)(hL:L.length<=2000000)(hx:L[k]?=some x)(hf:abh w fn cp x f u) :
 Calls prog 195 #[.pointer g,.agg #[o,s,k,.int .u64 z,.int .u64 ol,.int .u64 X,V],.func (.func fn) #[] cp] w λe w' =>
  e=.returned (.tuple #[.agg #[o,s,k,.int .u64 z,.int .u64 x,.int .u64 f,u],oZ])/\ug w base g vl E F (L.set k f) (uh R G ⟨o,s,k,z,x,f,u⟩) (ju C o) R w':=by
 unfold uh
 have a6:L≠[]:=by rintro rfl;simp at hx
 obtain⟨j,q,rfl,aq,cF⟩:=h.form a6
 obtain⟨n,hn⟩:=aw L.length
 have rz:k<n:=by rw[hn];exact(List.getElem?_eq_some_iff.1 hx).1
 rw[<-hn]at h hL ⊢
 have aT:=h.words.cell hx
 have kf:=h.words.frozen k
 obtain⟨l,cw,VN⟩:=ag.aF h.blk
 obtain⟨H,HX,HN,a⟩:=bh h hx hn h.nY
 have pD:base<=w.heap.size:=bm h.low (Nat.le_of_lt VN)
 clear h hx hn a6
 have xm:decide ((k:Int)<0)=false:=bF aa
 have Gg:decide ((n:Int)<=(k:Int))=false:=bF aa
 have Tv:decide (n<=k)=false:=bF aa
 generalize b8:(Obj.cells #[o,s,k,.int .u64 z,.int .u64 ol,.int .u64 X,V] 236)=oA
 clear b8
 have b6:=ae (qB ((w.alloc (.cells #[o,s,k,.int .u64 z,.int .u64 ol,.int .u64 X,V] 236)).alloc (.cells #[oZ,oZ,oZ,.int .u64 0,.int .u64 0,.int .u64 0,false] 236)) g ⟨j,0,none⟩ n q (((H.blk.alloc _).alloc _).cell 0))
 rcases hf with⟨rfl,rfl,B⟩|⟨b,rfl,rfl,T,B⟩|⟨b,y,rfl,rfl,T,B⟩|⟨b,c,wb,y,rfl,rfl,T,hz,B⟩
 all_goals
  try have dh:=bc T
  try have kR:=bc hz
  go_enter func195,ntmps195;go_wp2_with fail;refine b6.mono ?_;rintro e w' ⟨rfl,rfl⟩;go_wp2_with fail;go_quiet(fail);go_wp2;go_region;go_wp2_with fail;first
   |refine((PV _ x f u B).mono λ_ _ h=>(⟨h.1,h.2⟩:_/\Same _ _)).mono ?_
   |refine((LQ _ x f b u B (by exact(World.cell?_setCell_other _ _ _ _ Bg).trans (((World.cell?_alloc_lt _ _ _ wk).trans (World.cell?_alloc_lt _ _ _ wk)).trans T))).mono λ_ _ h=>(⟨h.1,h.2⟩:_/\Same _ _)).mono ?_
   |refine((Ub _ x y f b u B (by exact(World.cell?_setCell_other _ _ _ _ Bg).trans (((World.cell?_alloc_lt _ _ _ wk).trans (World.cell?_alloc_lt _ _ _ wk)).trans T))).mono λ_ _ h=>(⟨h.1,h.2⟩:_/\Same _ _)).mono ?_
   |refine((PU _ x wb y b c f u B (by exact(World.cell?_setCell_other _ _ _ _ Bg).trans (((World.cell?_alloc_lt _ _ _ wk).trans (World.cell?_alloc_lt _ _ _ wk)).trans T)) (by exact(World.cell?_setCell_other _ _ _ _ Bg).trans (((World.cell?_alloc_lt _ _ _ wk).trans (World.cell?_alloc_lt _ _ _ wk)).trans hz))).mono λ_ _ h=>(⟨h.1,h.2⟩:_/\Same _ _)).mono ?_
  rintro e P ⟨rfl,S⟩;have vV:Hid (eD P base g (.slice j n q) E F L G C R):=S.to (Q:=λW=>eD W base g (.slice j n q) E F L G C R) ((((H.alloc _).alloc _).drew _).b9 a (aR _) _);have JM:Hid (ag P w.heap.size 236 #[o,s,k,.int .u64 z,.int .u64 x,.int .u64 X,V]):=S.to (Q:=λW=>ag W w.heap.size 236 #[o,s,k,.int .u64 z,.int .u64 x,.int .u64 X,V]) ((((ag.new w _ _).alloc _).drewN _).bp 4 (.int .u64 x));have PY:Hid (ag P (w.heap.size+1) 236 #[oZ,oZ,oZ,.int .u64 0,.int .u64 0,.int .u64 0,false]):=S.to (Q:=λW=>ag W (w.heap.size+1) 236 #[oZ,oZ,oZ,.int .u64 0,.int .u64 0,.int .u64 0,false]) (((ag.newAt _ _ _ aA).drewN _).b9 aA _);have ik:Hid (Rest w P g (.slice j n q) E F):=S.to (Q:=λW=>Rest w W g (.slice j n q) E F) (((((Rest.refl w g _ E F).alloc (aR _) _).alloc aA _).drew _).lx (aR _) _);have br:Hid (Below base w P):=S.to (Q:=λW=>Below base w W) ((bZ (((Below.refl base w).alloc pD _).alloc ui _) _).setCell (p:=⟨w.heap.size,4,none⟩) pD _);have dw:w.heap.size+1<P.heap.size:=PY.lt;clear S aT kf l cw;have aT:=vV.words.cell HX;have kf:=vV.words.frozen k;have l:=λi=>ag.cell vV.blk i;obtain⟨O,cv,-⟩:=ag.aF JM;have Uc:g≠w.heap.size:=aa;have Ud:j≠w.heap.size:=aa;go_wp2;go_region;go_wp2_with fail;refine(Kz _ base g (.slice j n q) E F (L.set k f) G C R o ?hM hC).mono ?_;case hM=>exact(((vV.b9 a (aR _) _).b9 a (aR _) _).drew _).store k _
  rintro e t ⟨rfl,⟨vK,(r:Hid _),b5⟩,LR,xi⟩;have cD:w.heap.size≠j:=aa;have ct:w.heap.size+1≠j:=aa;have PZ:Hid (ag t w.heap.size 236 #[o,s,k,.int .u64 z,.int .u64 x,.int .u64 f,u]):=eD.free LR a ((((JM.bp 5 _).bp 6 _).b9 (p:=⟨j,k,none⟩) cD _).drewN 1) (aR _);have Nu:Hid (ag t (w.heap.size+1) 236 #[oZ,oZ,oZ,.int .u64 0,.int .u64 0,.int .u64 0,false]):=eD.free LR a ((((PY.b9 (p:=⟨w.heap.size,5,none⟩) aA _).b9 (p:=⟨w.heap.size,6,none⟩) aA _).b9 (p:=⟨j,k,none⟩) ct _).drewN 1) aa;have Y:∀b,vK.ownBlock=some b->F.ownBlock=some b\/w.heap.size+1<b:=λb d=>(b5 b d).imp id (λh=>by simp at h;omega);have dy:w.heap.size+1<t.heap.size:=Nu.lt;have gN:Hid (Rest w t g (.slice j n q) E F):=Rest.trans ((((ik.lx (p:=⟨w.heap.size,5,none⟩) (aR _) _).lx (p:=⟨w.heap.size,6,none⟩) (aR _) _).Kn (p:=⟨j,k,none⟩) rfl _).drew 1) ui LR (λb d=>.inl d) (λb d=>.inl d);have J:Hid (Below base w t):=(bZ (n:=1) (((br.setCell (p:=⟨w.heap.size,5,none⟩) pD _).setCell (p:=⟨w.heap.size,6,none⟩) pD _).setCell (p:=⟨j,k,none⟩) aq _)).trans xi;have D:=ae Y;have n1:g≠w.heap.size+1:=aa;have n2:(Value.slice j n q).ownBlock≠some (w.heap.size+1):=by intro m;simp[Value.ownBlock]at m;omega
  have n3:E.ownBlock≠some (w.heap.size+1):=by intro m;have:=a.2.2.1 _ m;omega
  have n4:vK.ownBlock≠some (w.heap.size+1):=by
   intro m;rcases D.Y _ m with h|h
   .have:=a.2.2.2 _ h;omega
   .omega
  obtain⟨N1,N2,N3,N4⟩:=bh n1 n2 n3 n4;clear aT kf l O cv b5 Y LR xi n1 n2 n3 n4;have cR:g<t.heap.size:=r.blk.lt;have l:=λi=>ag.cell r.blk i;have O:=λi=>ag.cell PZ i;obtain⟨fy,Ji,-⟩:=ag.aF Nu;rcases R with _|_
  .go_wp2;refine bodyPost_ret (v:=?_) ?_ rfl ?_;rotate_left
   .obtain⟨k0,k1,k2,k3,k4,k5,k6⟩:=xM Nu o s k (.int .u64 z) (.int .u64 x) (.int .u64 f) u;exact WB
   .exact⟨rfl,E,vK,Az r N1 N2 N3 N4 o s k (.int .u64 z) (.int .u64 x) (.int .u64 f) u,λ_ d=>.inl d,λb d=>(D b d).imp id (λh=>by omega),Ay gN aa o s k (.int .u64 z) (.int .u64 x) (.int .u64 f) u,sB J aa o s k (.int .u64 z) (.int .u64 x) (.int .u64 f) u⟩
  .go_wp2;go_region_law(first
    |(refine gf rfl _ _ 173 rfl base 236 7 56 (.agg #[oZ,oZ,oZ,.int .u64 0,.int .u64 0,.int .u64 0,false]) FT NX NY underlying173 NZ rfl af E G rfl ?_ t.heap.size 1 1 [⟨o,s,k,z,x,f,u⟩] rfl rfl ?_ ?_ ?_ ?_ ?_;(exact r.log.alloc _);(exact Rd.lit t [o,s,k,.int .u64 z,.int .u64 x,.int .u64 f,u] _);(simp;omega);(simp;omega);(have:=J.size;simp;omega);intro v4 U dm I Z;obtain⟨A,K,a7,_⟩:=dm.rd;rw[fM,iw]at a7;subst a7;have Ue:ag U g 175 #[.slice j n q,E,vK,true]:=ag.grown (by exact r.blk.alloc _) I (by exact ba (r.log.alloc (.cells #[o,s,k,.int .u64 z,.int .u64 x,.int .u64 f,u] 236)) (r.blk.alloc _) af);have c0:=λi=>ag.cell Ue i;have dc:=λi=>ag.free Ue i;have df:=Ue.lt))
   all_goals
    have a8:some w.heap.size≠E.ownBlock:=λm=>by have:=a.2.2.1 _ m.symm;omega
    have bz:some (w.heap.size+1)≠E.ownBlock:=λm=>by have:=a.2.2.1 _ m.symm;omega
    have M:ag U w.heap.size 236 #[o,s,k,.int .u64 z,.int .u64 x,.int .u64 f,u]:=ag.grown (by exact PZ.alloc _) I a8;have N:ag U (w.heap.size+1) 236 #[oZ,oZ,oZ,.int .u64 0,.int .u64 0,.int .u64 0,false]:=ag.grown (by exact Nu.alloc _) I bz;have P5:=((r.alloc (.cells #[o,s,k,.int .u64 z,.int .u64 x,.int .u64 f,u] 236)).drew 1).N0 dm I;obtain⟨cO,b7,rY⟩:=aS (M.b9 (p:=⟨g,1,none⟩) ui (.slice A (G.length+1) K)) (N.b9 (p:=⟨g,1,none⟩) ui (.slice A (G.length+1) K)) P5;have iq:Hid (Below base w (U.setCell ⟨g,1,none⟩ (.slice A (G.length+1) K))):=(((bZ (n:=1) (J.alloc (by have:=J.size;omega) _)).grown I (by have:=J.size;simp;omega) (λb d=>(bk r.log d).1))).setCell (p:=⟨g,1,none⟩) r.low _;have vh:∀b,(Value.slice A (G.length+1) K).ownBlock=some b->E.ownBlock=some b\/w.heap.size+1<b:=by
     intro b d;rcases Z with h|h
     .exact .inl (h.symm.trans d)
     .rw[h]at d;injection d with d;right;rw[<-d];simp;omega
    have iA:Hid (Rest w (U.setCell ⟨g,1,none⟩ (.slice A (G.length+1) K)) g (.slice j n q) E F):=(Rest.grown (vg':=E) (((gN.alloc J.size _).drew 1)) (by have:=J.size;simp;omega) I (λb d=>.inl d)).Jb _;have n3:(Value.slice A (G.length+1) K).ownBlock≠some (w.heap.size+1):=by
     intro m;rcases vh _ m with h|h
     .have:=a.2.2.1 _ h;omega
     .omega
    obtain⟨N5,nu⟩:=av n3 vh;have dg:=λi=>ag.cell M i;obtain⟨cy,cz,cG⟩:=ag.aF N;clear I dm Z M N P5 vh n3 a8 bz l O fy Ji Ue;go_wp2;refine bodyPost_ret (v:=?_) ?_ rfl ?_;rotate_left
    .obtain⟨k0,k1,k2,k3,k4,k5,k6⟩:=xM b7 o s k (.int .u64 z) (.int .u64 x) (.int .u64 f) u;exact WB
    .exact⟨rfl,.slice A (G.length+1) K,vK,Az rY N1 N2 N5 N4 o s k (.int .u64 z) (.int .u64 x) (.int .u64 f) u,λb d=>(nu b d).imp id (λh=>by omega),λb d=>(D b d).imp id (λh=>by omega),Ay iA aa o s k (.int .u64 z) (.int .u64 x) (.int .u64 f) u,sB iq aa o s k (.int .u64 z) (.int .u64 x) (.int .u64 f) u⟩
theorem ug.back{w f:World}{L:List Int}(h:ug f base g vl vg vc L G C kp w1)(e:Below w w f)(s:base<=w):ug w base g vl vg vc L G C kp w1:=by obtain⟨c,r,m,n,o,p,q⟩:=h;refine⟨c,r,m,λb a=>(n b a).imp id (λk=>bm e.size k),λb a=>(o b a).imp id (λk=>bm e.size k),λb a d i j l=>(p b (bW a e.size) d i j l).trans (e.block b a),(e.mono s).trans q⟩
theorem ug.more{w:World}{L:List Int}(h:ug w base g vl vg vc L G C kp w1)(o:Obj):ug w base g vl vg vc L G C kp (w1.alloc o):=by obtain⟨d,q,a,l,m,n,e⟩:=h;have r:=e.size;have p:=bm a.low (Nat.le_of_lt a.blk.lt);exact⟨d,q,a.alloc o,l,m,λb c f i j k=>(Below.heap_alloc w1 o b aa).trans (n b c f i j k),e.alloc p o⟩
section
variable(base g:Nat)(vl vg vc:Value)(L:List Int)(G:List Acc)(C:List Int)(kp:Bool)
theorem P6(f:Int)(k:Nat)(x:Int)(h:eD w base g vl vg vc L G C kp)(p:C.length<=64)(s:G.length<=1000000)(u:L.length<=2000000)(o:L[k]?=some x) :
 Calls prog 185 #[.pointer g,f,k] w λe w' =>
  e=.returned (.tuple #[.int .u64 x,oZ])/\ug w base g vl vg vc (L.set k (x)) (uh kp G ⟨f,1,k,0,x,x,true⟩) (ju C f) kp w':=by
 have b:Below w w w:=ai w
 obtain⟨HD,HB,H⟩:=aS (xw w base g vl vg vc L G C kp f 1 0 0 0 k false x x true 215 #[] (h.ah b) p s u o (.inl ⟨rfl,rfl,rfl,rfl⟩)) b h
 have pD:base<=w:=bm h.low (Nat.le_of_lt h.blk.lt)
 have d:∀(c:Fn) (first a:Array Value) (w:World),(Instr.makeFunc c first a).run prog w=.ok (.func c first a) w:=λ_ _ _ _=>rfl
 clear h o b
 go_enter func185,ntmps185
 exact YS
theorem LS(f:Int)(k:Nat)(x:Int)(y:Int)(h:eD w base g vl vg vc L G C kp)(p:C.length<=64)(s:G.length<=1000000)(u:L.length<=2000000)(o:L[k]?=some x) :
 Calls prog 186 #[.pointer g,f,k,.int .u64 y] w λe w' =>
  e=.returned oZ/\ug w base g vl vg vc (L.set k (y)) (uh kp G ⟨f,2,k,0,x,y,true⟩) (ju C f) kp w':=by
 have b:Below w w (w.alloc (.cells #[.int .u64 y] 69)):=(aj (ai w) (.cells #[.int .u64 y] 69))
 obtain⟨j,i,H⟩:=aS (xw (w.alloc (.cells #[.int .u64 y] 69)) base g vl vg vc L G C kp f 2 0 0 0 k false x y true 216 #[.pointer w] (h.ah b) p s u o (.inr (.inl ⟨w,rfl,rfl,aA,rfl⟩))) b h
 have n:base<=w.heap.size:=bm h.low (Nat.le_of_lt h.blk.lt)
 have m:∀(c:Fn) (first a:Array Value) (w:World),(Instr.makeFunc c first a).run prog w=.ok (.func c first a) w:=λ_ _ _ _=>rfl
 clear h o b
 go_enter func186,ntmps186
 go_wp2_with fail
 refine j.mono ?_
 rintro e q ⟨rfl,d⟩
 have l:=ae ((d.back i n))
 clear d
 go_wp2
 go_ret
 exact⟨rfl,l.more _⟩
theorem Uf(f:Int)(k:Nat)(x:Int)(y:Int)(h:eD w base g vl vg vc L G C kp)(p:C.length<=64)(s:G.length<=1000000)(u:L.length<=2000000)(o:L[k]?=some x) :
 Calls prog 156 #[.pointer g,f,k,.int .u64 y] w λe w' =>
  e=.returned (.tuple #[.int .u64 x,oZ])/\ug w base g vl vg vc (L.set k ((IntKind.u64.wrap (x+y)))) (uh kp G ⟨f,4,k,0,x,(IntKind.u64.wrap (x+y)),true⟩) (ju C f) kp w':=by
 have b:Below w w (w.alloc (.cells #[.int .u64 y] 69)):=(aj (ai w) (.cells #[.int .u64 y] 69))
 obtain⟨HD,HB,H⟩:=aS (xw (w.alloc (.cells #[.int .u64 y] 69)) base g vl vg vc L G C kp f 4 0 0 0 k false x (IntKind.u64.wrap (x+y)) true 196 #[.pointer w] (h.ah b) p s u o (.inr (.inr (.inl ⟨w,y,rfl,rfl,aA,rfl,rfl⟩)))) b h
 have pD:base<=w:=bm h.low (Nat.le_of_lt h.blk.lt)
 have d:∀(c:Fn) (first a:Array Value) (w:World),(Instr.makeFunc c first a).run prog w=.ok (.func c first a) w:=λ_ _ _ _=>rfl
 clear h o b
 go_enter func156,ntmps156
 exact YS
theorem P7(s:Int)(k:Nat)(x:Int)(p y f:Int)(o:Bool)(h:eD w base g vl vg vc L G C kp)(E:C.length<=64)(F:G.length<=1000000)(I:L.length<=2000000)(u:L[k]?=some x)(z:Hid ((if x=p then y else x)=f/\(x==p)=o)) :
 Calls prog 194 #[.pointer g,s,k,.int .u64 p,.int .u64 y] w λe w' =>
  e=.returned (.tuple #[o,oZ])/\ug w base g vl vg vc (L.set k (f)) (uh kp G ⟨s,3,k,p,x,f,o⟩) (ju C s) kp w':=by
 have b:Below w w ((w.alloc (.cells #[.int .u64 p] 69)).alloc (.cells #[.int .u64 y] 69)):=(aj ((aj (ai w) (.cells #[.int .u64 p] 69))) (.cells #[.int .u64 y] 69))
 obtain⟨HD,HB,H⟩:=aS (xw ((w.alloc (.cells #[.int .u64 p] 69)).alloc (.cells #[.int .u64 y] 69)) base g vl vg vc L G C kp s 3 p 0 0 k false x f o 222 #[.pointer w,.pointer (some ⟨w+1,0,none⟩)] (h.ah b) E F I u (.inr (.inr (.inr ⟨w,w+1,p,y,rfl,rfl,aA,aA,z⟩)))) b h
 have pD:base<=w:=bm h.low (Nat.le_of_lt h.blk.lt)
 have d:∀(c:Fn) (first a:Array Value) (w:World),(Instr.makeFunc c first a).run prog w=.ok (.func c first a) w:=λ_ _ _ _=>rfl
 clear h u b
 go_enter func194,ntmps194
 exact YS
end
end
section
variable(w:World)(base g:Nat)(vl vg vc:Value)(L:List Int)(G:List Acc)(C:List Int)(kp:Bool)
theorem P8(b:Bool)(h:eD w base g vl vg vc L G C kp)(f:L≠[]) :
 Calls prog 67 #[.pointer g,b] w λe w'=>e=.returned (.tuple #[])/\ug w base g vl vg vc L G C b w':=by
 obtain⟨l,k,rfl,d,i⟩:=h.form f
 have j:=ae (qB w g ⟨l,0,none⟩ L.length k (h.blk.cell 0))
 obtain⟨m,n,o⟩:=ag.aF h.blk
 have H:=ae h
 clear h
 go_enter func67,ntmps67
 go_wp2_with fail
 refine j.mono ?_
 rintro e w' ⟨rfl,rfl⟩
 go_wp2
 go_end0
 have a:=H.Y
 exact⟨rfl,vg,vc,⟨ag.bp a.blk 3 b,bu a.words a.blk af _ _,bu a.log a.blk af _ _,bu a.counts a.blk af _ _,a.low⟩,λ_ c=>.inl c,λ_ c=>.inl c,(Rest.refl w g _ vg vc).Jb _,(Below.refl _ _).setCell (p:=⟨g,3,none⟩) a.low _⟩
theorem qX{e f o:Nat}:∀(a:List Int) (w:World) (L:List Int) (k:Nat),eD w base g (.slice e o f) vg vc L G C kp->(∀b,b≠e->(w.setCells e k (a.map (Value.int .u64))).heap[b]?=w.heap[b]?)/\(w.setCells e k (a.map (Value.int .u64))).heap.size=w.heap.size/\(base<=e->Below base w (w.setCells e k (a.map (Value.int .u64))))/\eD (w.setCells e k (a.map (Value.int .u64))) base g (.slice e o f) vg vc (kQ L k a) G C kp
 |[],w,L,k,h=>⟨λ_ _=>rfl,rfl,λ_=>Below.refl _ _,h⟩
 |y::a,w,L,k,h=>by
  have m:=h.store k y
  obtain⟨d,i,j,l⟩:=qX a _ _ (k+1) m
  refine⟨λb c=>(d b c).trans (dE _ _ _ _ c),i.trans aA,λc=>((Below.refl base w).setCell (p:=⟨e,k,none⟩) c _).trans (j c),?_⟩
  unfold kQ Mo.setAt
  rw[au aa,fR]
  exact l
theorem Ei(k:Nat)(f:List Int)(A:Option Addr)(m c:Nat)(y:m=f.length)(h:eD w base g vl vg vc L G C kp)(O:L.length<=2000000)(F:k+f.length<=L.length)(o:f≠[])(E:bD w .u64 A f) :
 Calls prog 96 #[.pointer g,k,.slice A m c] w λe w'=>e=.returned oZ/\ug w base g vl vg vc (kQ L k f) G C kp w':=by
 have v:0<f.length:=List.length_pos_iff.2 o
 have t:L≠[]:=by rintro rfl;rw[List.length_nil]at F;omega
 obtain⟨x,q,rfl,l,B⟩:=h.form t
 obtain⟨n,D⟩:=aw L.length
 rw[<-D]at h O F ⊢
 have kR:n<=q:=h.words.cap.2
 obtain⟨Q,-,Z⟩:=ag.aF h.blk
 obtain⟨a,z,rfl,_,_⟩:=E.at_ (i:=0) v
 have I:=ae (qB w g ⟨x,0,none⟩ n q (h.blk.cell 0))
 have xm:decide ((k:Int)<0)=false:=bF aa
 have W:decide ((n:Int)<(k:Int))=false:=bF aa
 have Y:decide (n<k)=false:=bF aa
 have R:decide ((n:Int)-(k:Int)<(m:Int))=false:=bF aa
 have V:k<q:=aa
 have aC:=run_copy_cells (P:=prog) w 30 30 3 69 x k (n-k) (q-k) a m c (f.map (Value.int .u64)) underlying30 (by kernel_rfl) (by rw[fP, <-y];exact(Nat.min_eq_left aa).symm)
  (by
    intro j u r;obtain⟨a',d,N⟩:=E j u r;injection d with d;subst d;exact N)
  (by
    intro j r;rw[fP]at r;obtain⟨z,T⟩:∃z,L[k+j]?=some z:=⟨_,cq aa⟩
    rw[h.words.cell T];rfl)
  (by intro j r;exact h.words.frozen _)
  (by
    intro u S;obtain⟨z,_,rfl⟩:=List.mem_map.1 S;rfl)
 have p:=qX base g vg vc G C kp f w L k h
 obtain⟨H,U,X⟩:=aS h p y
 clear h D o t E v p y
 go_enter func96,ntmps96
 go_wp2_with fail
 refine I.mono ?_
 rintro e w' ⟨rfl,rfl⟩
 go_wp2
 go_ret
 obtain⟨J,a2,K,M⟩:=U.Y
 exact⟨rfl,vg,vc,M,λ_ s=>.inl s,λ_ s=>.inl s,λb _ _ d _ _=>J b (λe=>d (by rw[e];rfl)),K l⟩
theorem YT(E y o F z u:Int)(s:Bool)(f:Value)(h:eD w base g vl vg vc L G C kp)(p:L≠[])(H:o<0\/(L.length:Int)<=o) :
 Calls prog 195 #[.pointer g,.agg #[E,y,o,.int .u64 F,.int .u64 z,.int .u64 u,s],f] w λe w' =>
  e=.returned (.tuple #[.agg #[oZ,oZ,oZ,.int .u64 0,.int .u64 0,.int .u64 0,false],.int .i64 5])/\Below w w w':=by
 obtain⟨d,c,rfl,a,b⟩:=h.form p
 generalize L.length=n at h H
 obtain⟨j,-,l⟩:=ag.aF h.blk
 have HMY:=ae (qB ((w.alloc (.cells #[E,y,o,.int .u64 F,.int .u64 z,.int .u64 u,s] 236)).alloc (.cells #[oZ,oZ,oZ,.int .u64 0,.int .u64 0,.int .u64 0,false] 236)) g ⟨d,0,none⟩ n c (((h.blk.alloc _).alloc _).cell 0))
 clear h p
 by_cases i:o<0
 .exact abk
 .have m:decide (o<0)=false:=bF i;have k:decide ((n:Int)<=o)=true:=cg aa;exact abk
theorem P9(s o:Int)(h:eD w base g vl vg vc L G C kp)(f:L≠[])(p:o<0\/(L.length:Int)<=o) :
 Calls prog 185 #[.pointer g,s,o] w λe w'=>e=.returned (.tuple #[.int .u64 0,.int .i64 5])/\Below w w w':=by
 have i:=ae (YT w base g vl vg vc L G C kp s 1 o 0 0 0 false (.func (.func 215) #[] #[]) h f p)
 have j:∀(b:Fn) (first a:Array Value) (w:World),(Instr.makeFunc b first a).run prog w=.ok (.func b first a) w:=λ_ _ _ _=>rfl
 clear h f p
 go_enter func185,ntmps185
 go_wp2_with fail
 refine i.mono ?_
 rintro e k ⟨rfl,c⟩
 have d:=ae (aj c (.cells #[oZ,oZ,oZ,.int .u64 0,.int .u64 0,.int .u64 0,false] 236))
 clear c
 go_wp2
 go_ret2
 exact⟨rfl,d⟩
end
end Go.Proofs.YtpfbfhfcbdbglaaGreat
