/- Walks and plain facts. No condition. -/
import Derived.Test.YtpfbfhfcbdbglaaGreatPj
namespace Go.Proofs.YtpfbfhfcbdbglaaGreat
open Go.RowKit Go.Proofs.Tryz Mo
set_option maxHeartbeats 8000000
set_option maxRecDepth 100000
set_option linter.all false
variable {w w' w1 wx wy wr w2:World}{p q k base i b q' hi n1:Nat}{X S S':Nat->Prop}{t N:Int}{r r':Mo.Rn}{arr:Array Value}{α β:Type}{P:Prop}{A1 B1:Option Addr}{x:Mo.Tk}{e:Ending}
structure yP where
 op:Mo.Op
 B:Option Addr
 d:Nat
def wE(x:yP):List Value:=[x.op.th,x.op.seq,x.op.phase,x.op.aQ.kind,x.op.aQ.arg,x.op.aQ.value,x.op.aQ.dflt,.slice x.B x.op.aQ.cases.length x.d]
theorem iE(x:yP):(wE x).length=8:=rfl
theorem jP(x:yP):∀u∈wE x,u.oneCell'=true:=by intro u a;simp[wE]at a;rcases a with rfl|rfl|rfl|rfl|rfl|rfl|rfl|rfl<;>rfl
theorem yQ{w:World}{S:Nat->Prop}:∀(rows:List (Row 8)) (c:List Mo.Op),rows.length=c.length->(∀(i:Nat) (r:Row 8) (x:Mo.Op),rows[i]?=some r->c[i]?=some x->FD w S r.val x)->∃L:List yP,L.map (·.op)=c/\rows=L.map (jJ wE iE jP)/\∀x∈L,eo w S bj x.B x.op.aQ.cases
 |[],[],_,_=>⟨[],rfl,rfl,λ_ h=>by cases h⟩
 |r::rows,x::c,hl,h=>by
  obtain⟨L,g,j,k⟩:=yQ rows c (by simpa using hl) (λi r x a b=>h (i+1) r x a b)
  obtain⟨B,d,e,l⟩:=h 0 r x rfl rfl
  refine⟨⟨x,B,d⟩::L,by rw[List.map_cons,g],?_,λy f=>?_⟩
  .rw[List.map_cons,j];congr 1;exact Subtype.ext e
  .rcases List.mem_cons.1 f with rfl|f
   .exact l
   .exact k y f
theorem aH.opX{v:Value}{L:List yP}(h:aH w base 40 8 wE v L)(d:∀x∈L,eo w S bj x.B x.op.aQ.cases):aD 40 8 FD w base S v (L.map (·.op)):=by
 refine⟨L.map (jJ wE iE jP),aA,aH.rows.2 h,λi r x a b=>?_⟩;rw[List.getElem?_map]at a b;cases c:L[i]? with
 |none=>rw[c]at a;cases a
 |some y =>
  rw[c]at a b;injection a with a;injection b with b
  subst a b;exact⟨y.B,y.d,rfl,d y (bo c)⟩
theorem Bj{α β:Type}(f:α->β)(c:β->β->Bool)(x:α):∀l:List α,(gJ (λa b=>c (f a) (f b)) x l).map f=gJ c (f x) (l.map f)
 |[]=>rfl
 |y::l=>by
  rw[gJ,List.map_cons,gJ]
  split
  .rw[List.map_cons,Bj f c x l]
  .rfl
theorem yR{α β:Type}(f:α->β)(d:β->β->Bool):∀(l c:List α),(l.foldl (λc x=>gJ (λa b=>d (f a) (f b)) x c) c).map f=(l.map f).foldl (λc x=>gJ d x c) (c.map f)
 |[],_=>rfl
 |x::l,c=>by rw[List.foldl_cons,yR f d l,Bj,List.map_cons,List.foldl_cons]
theorem Hx(f:α->β)(c:β->β->Bool)(l:List α):(eA (λa b=>c (f a) (f b)) l).map f=eA c (l.map f):=by unfold eA;rw[List.map_reverse,yR];rfl
def FE(a b:yP):Int:=if a.op.phase≠b.op.phase then(if a.op.phase<b.op.phase then -1 else 1)else if a.op.th≠b.op.th then(if a.op.th<b.op.th then -1 else 1)else 0
def Nz(a b:yP):Bool:=decide (FE a b<0)
theorem Zt:Nz=λa b=>(λ(a b:Mo.Op)=>if a.phase≠b.phase then decide (a.phase<b.phase)else decide (a.th<b.th)) a.op b.op:=by
 funext a b
 unfold Nz FE;by_cases c:a.op.phase=b.op.phase
 .by_cases d:a.op.th=b.op.th
  .simp[c,d]
  .simp only[c,ne_eq,not_true_eq_false,if_false,d,not_false_eq_true,if_true];split
   .rename_i h;simp[h]
   .rename_i h;simp[h]
 .simp only[ne_eq,c,not_false_eq_true,if_true];split
  .rename_i h;simp[h]
  .rename_i h;simp[h]
structure Hy (w wr:World) (base g n c:Nat) (L:List yP):Prop where
 own:aH wr base 40 8 wE (.slice g n c) L
 rest:∀b,b<w.heap.size->b≠g->wr.heap[b]?=w.heap[b]?
 ext:Below base w wr
 low:base<=g
 lt:g<w.heap.size
theorem Hy.size{g n c:Nat}{L:List yP}(h:Hy w wr base g n c L):w.heap.size<=wr.heap.size:=h.ext.size
theorem Hy.more{g n c:Nat}{L:List yP}(h:Hy w wr base g n c L)(a:Below wr wr w'):Hy w w' base g n c L:=⟨h.own.ah a,λb d e=>(a.block b (bW d h.size)).trans (h.rest b d e),h.ext.trans (a.mono (by have:=h.low;have:=h.lt;have:=h.size;omega)),h.low,h.lt⟩
theorem Hy.bp{g n c:Nat}{L:List yP}(h:Hy w wr base g n c L)(u:i<L.length)(x:yP):Hy w (ax wr g (i*8) (wE x)) base g n c (L.set i x):=by
 refine⟨?_,λb e a=>(aM a _ _).trans (h.rest b e a),az h.low _ _ _ h.ext,h.low,h.lt⟩;have f:=h.own.cap.1;subst f;have h1:=aH.rows (h1:=iE) (h2:=jP) |>.2 h.own
 unfold aH at h1;rw[fP]at h1;have h2:=tR (wE x) wr (i*8) _ h1;have d:=uW (L.map (jJ wE iE jP)) i (jJ wE iE jP x) (by simpa using u);refine aH.rows (h1:=iE) (h2:=jP) |>.1 ?_
 unfold aH;rw[List.map_set,dN,fP, <-d];exact h2
section
variable(w:World)
theorem ED(a b:yP):Calls prog 219 #[.agg #[a.op.th,a.op.seq,a.op.phase,a.op.aQ.kind,a.op.aQ.arg,a.op.aQ.value,a.op.aQ.dflt,.slice a.B a.op.aQ.cases.length a.d],.agg #[b.op.th,b.op.seq,b.op.phase,b.op.aQ.kind,b.op.aQ.arg,b.op.aQ.value,b.op.aQ.dflt,.slice b.B b.op.aQ.cases.length b.d]] w λe w'=>e=.returned (FE a b)/\Below w w w':=by
 have fW:=ae (λg b=>Ht g b);have bJ:Hid (Below w w ((w.alloc (.cells #[a.op.th,a.op.seq,a.op.phase,a.op.aQ.kind,a.op.aQ.arg,a.op.aQ.value,a.op.aQ.dflt,.slice a.B a.op.aQ.cases.length a.d] 40)).alloc (.cells #[b.op.th,b.op.seq,b.op.phase,b.op.aQ.kind,b.op.aQ.arg,b.op.aQ.value,b.op.aQ.dflt,.slice b.B b.op.aQ.cases.length b.d] 40))):=aj (aj (ai w) _) _;by_cases h1:a.op.phase=b.op.phase
 .have d:(a.op.phase !=b.op.phase)=false:=by rw[h1];simp
  by_cases h2:a.op.th=b.op.th
  .have f:(a.op.th !=b.op.th)=false:=by rw[h2];simp
   have HE:Hid (FE a b=0):=by unfold Hid FE;rw[au (by simpa using h1),au (by simpa using h2)]
   clear h1 h2;go_enter func219,ntmps219;go_wp2;go_ret;exact⟨by rw[HE.Y];rfl,bJ⟩
  .have f:(a.op.th !=b.op.th)=true:=by simpa using h2
   rcases c:decide (a.op.th<b.op.th)with _|_
   .have HE:Hid (FE a b=1):=by unfold Hid FE;rw[au (by simpa using h1),ay h2];rw[au (of_decide_eq_false c)]
    exact abB
   .have HE:Hid (FE a b=-1):=by unfold Hid FE;rw[au (by simpa using h1),ay h2];rw[ay (of_decide_eq_true c)]
    exact abB
 .have d:(a.op.phase !=b.op.phase)=true:=by simpa using h1
  rcases c:decide (a.op.phase<b.op.phase)with _|_
  .have HE:Hid (FE a b=1):=by unfold Hid FE;rw[ay h1];rw[au (of_decide_eq_false c)]
   exact abC
  .have HE:Hid (FE a b=-1):=by unfold Hid FE;rw[ay h1];rw[ay (of_decide_eq_true c)]
   exact abC
def QE(w:World)(base g n c:Nat)(L:List yP)(e:Ending)(a:World):Prop:=e=.returned (.tuple #[])/\Hy w a base g n c L
theorem Hz{g n c:Nat}(D:List yP)(h:Hy w w base g n c D)(hl:n<=100000) :
 Calls prog 237 #[.slice g n c,oZ,n,.func (.func 219) #[] #[]] w (QE w base g n c (eA Nz D)):=by
 have HN:Hid (n=D.length):=h.own.cap.1
 have H0:=ae h
 clear h
 go_enter func237,ntmps237
 go_wp2
 go_loopw[8] (λi wr=>∃k:Nat,1<=k/\k<=n+1/\i=k/\Hid (Hy w wr base g n c (eA Nz (D.take k)++D.drop k))) (λi _=>n+1-(intOf i).toNat)
 case atStart =>
  refine⟨1,aR _,aa,rfl,?_⟩;have:eA Nz (D.take 1)++D.drop 1=D:=by
   rcases D with _|⟨x,D⟩
   .rfl
   .rfl
  unfold Hid;rw[this];exact H0.Y
 case round =>
  obtain⟨k,oD,hk,rfl,HS⟩:=hrel;by_cases C:k<n
  .go_wp2_with fail;obtain⟨wo,E⟩:∃wo:World,wo=wr:=⟨_,rfl⟩
   subst E;go_loopw[9] (λj wr=>∃(m:Nat) (L:List yP),m<=k/\j=m/\Hid (Lq Nz D k m L)/\Hid (Hy w wr base g n c L)) (λj _=>(intOf j).toNat);case atStart=>exact⟨k,_,aR _,rfl,Lq.start (by rw[<-HN.Y];exact C),HS⟩
   case round =>
    obtain⟨m,L,hm,rfl,t,p⟩:=hrel;rcases m with _|m
    .go_wp2_with fail;go_quiet(fail);go_wp2;go_roundw;case rel =>
      refine⟨k+1,aa,aa,by go_num,?_⟩;rw[<-t.Y.stop (.inl rfl)];exact p.more (bZ (ai _) _)
     case measure=>simp[intOf];omega
    .obtain⟨x,y,F,v,G,H⟩:=t.read;have a:=λi u (q:(wE x)[i]?=some u)=>aH.cells iE p.own v q;have b:=λi u (q:(wE y)[i]?=some u)=>aH.cells iE p.own G q;have r:=a 0 _ rfl;have J:=a 1 _ rfl;have K:=a 2 _ rfl;have M:=a 3 _ rfl;have N:=a 4 _ rfl;have O:=a 5 _ rfl;have P:=a 6 _ rfl;have Q:=a 7 _ rfl;have s:=b 0 _ rfl;have R:=b 1 _ rfl;have S:=b 2 _ rfl;have T:=b 3 _ rfl;have U:=b 4 _ rfl;have V:=b 5 _ rfl;have W:=b 6 _ rfl;have X:=b 7 _ rfl;rw[Nat.add_zero]at r s;clear a b;obtain⟨z,A⟩:=av v G;have Z:=bW p.lt p.size;have e1:IntKind.i64.wrap ((m:Int)+1-1)=m:=by rw[bH _ aa];omega
     have Ky:m+1<n:=aa;have Y:Hid (m+1<L.length):=(List.getElem?_eq_some_iff.1 v).1;clear F v G H;have t1:(0:Int)<=(m:Int)+1:=aa;have t2:((m:Int)+1).toNat=m+1:=aa;have t3:(m:Int)+1<(n:Int):=aa;have e2:IntKind.i64.wrap (m:Int)=m:=bH _ aa;have t4:(m:Int)<(n:Int):=aa;have t5:(0:Int)<=(m:Int):=aa;by_cases l:FE x y<0
     .have d1:decide (FE x y<0)=true:=cg l;have B:Hid (Nz x y=true):=d1;clear l;go_wp2_with fail;go_still_tail 14,(by kernel_rfl)
      change wpList _ _ _ _ _ wr.drew;have d:=ae (p.more (ai wr).drew);clear r J K M N O P Q s R S T U V W X Z;generalize wr.drew=I at *;go_wp2_with fail;go_fit (ED I x y);rintro e w2 ⟨rfl,f⟩;have o:=ae (d.more f);clear f d;have a:=λi u (q:(wE x)[i]?=some u)=>aH.cells iE o.own z q;have b:=λi u (q:(wE y)[i]?=some u)=>aH.cells iE o.own A q;have r:=a 0 _ rfl;have J:=a 1 _ rfl;have K:=a 2 _ rfl;have M:=a 3 _ rfl;have N:=a 4 _ rfl;have O:=a 5 _ rfl;have P:=a 6 _ rfl;have Q:=a 7 _ rfl;have s:=b 0 _ rfl;have R:=b 1 _ rfl;have S:=b 2 _ rfl;have T:=b 3 _ rfl;have U:=b 4 _ rfl;have V:=b 5 _ rfl;have W:=b 6 _ rfl;have X:=b 7 _ rfl;rw[Nat.add_zero]at r s;clear a b;have fg:=λi=>aH.frozen o.own i;have aq:=bW o.lt o.size;go_wp2;go_region;all_goals
       go_wp2;go_roundw;case rel=>exact⟨m,_,aa,rfl,t.down z A B,((o.bp Y.Y y).bp (by rw[dN];have:=Y.Y;omega) x).more (ai _).drew⟩
       case measure=>simp[intOf]
     .have d1:decide (FE x y<0)=false:=bF l;have B:Hid (Nz x y=false):=d1;clear l;go_wp2_with fail;go_still_tail 14,(by kernel_rfl)
      change wpList _ _ _ _ _ wr.drew;have d:=ae (p.more (ai wr).drew);clear r J K M N O P Q s R S T U V W X Z;generalize wr.drew=I at *;go_wp2_with fail;go_fit (ED I x y);rintro e w2 ⟨rfl,f⟩;have o:=ae (d.more f);clear f d;go_wp2;go_roundw;case rel=>refine⟨k+1,aa,aa,by go_num,?_⟩;rw[<-t.Y.stop (.inr ⟨x,y,Nat.succ_pos m,z.Y,A.Y,B.Y⟩)];exact o.Y
      case measure=>simp[intOf];omega
  .exact Wn
theorem EE{g n c:Nat}(D:List yP)(h:Hy w w base g n c D)(f:n<=19) :
 Calls prog 232 #[.slice g n c,n,.func (.func 219) #[] #[]] w (QE w base g n c (eA Nz D)):=by
 have HI:=ae (Hz w D h aa)
 clear h
 have d:¬(20:Int)<=n:=aa
 have e:¬(20:Int)<n:=aa
 go_enter func232,ntmps232
 exact aaY
theorem My{g n c:Nat}(D:List yP)(h:Hy w w base g n c D)(a:n<=19) :
 Calls prog 218 #[.slice g n c,.func (.func 219) #[] #[]] w (QE w base g n c (eA Nz D)):=by
 have HI:=ae (EE w D h a)
 clear h
 go_enter func218,ntmps218
 exact Wo
theorem Ia(c:Nat)(A:Option Addr):Calls prog 237 #[.slice A 0 c,oZ,oZ,.func (.func 219) #[] #[]] w λe w'=>e=.returned (.tuple #[])/\w'=w:=by go_enter func237,ntmps237;exact aaZ
theorem EF(c:Nat)(A:Option Addr):Calls prog 232 #[.slice A 0 c,oZ,.func (.func 219) #[] #[]] w λe w'=>e=.returned (.tuple #[])/\w'=w:=by
 have f:=ae (Ia w c A);go_enter func232,ntmps232;go_wp2;go_loopw[7,8] (λa b wr=>a=oZ/\b=.int .i64 20/\Hid (wr=w)) (λ_ _ _=>0);case atStart=>exact⟨rfl,rfl,rfl⟩
 case round =>
  obtain⟨rfl,rfl,g⟩:=hrel;have d:=g.Y;subst d;go_wp2_with fail;refine f.mono ?_;rintro e j ⟨rfl,h⟩;subst h;go_wp2;go_loopw[6] (λa k=>a=.int .i64 20/\Hid (k=j)) (λ_ _=>0);case atStart=>exact⟨rfl,rfl⟩
  case round=>obtain⟨rfl,i⟩:=hrel;have d:=i.Y;subst d;go_wp2;go_end0;exact⟨rfl,rfl⟩
theorem Mz(c:Nat)(A:Option Addr):Calls prog 218 #[.slice A 0 c,.func (.func 219) #[] #[]] w λe w'=>e=.returned (.tuple #[])/\Below w w w':=by have a:=ae (EF w c A);go_enter func218,ntmps218;go_wp2_with fail;refine a.mono ?_;rintro e d ⟨rfl,b⟩;subst b;go_wp2;go_end0;exact⟨rfl,ai _⟩
theorem Ib(c:List Mo.Op)(B:Option Addr)(f C:Nat)(j:f=c.length)(pD:f<=19)(H:∀b,S b->b<w.heap.size)(W:jv 8 FD w S B c) :
 Calls prog 192 #[.slice B f C] w λe w'=>∃z d,e=.returned (.slice z f d)/\aD 40 8 FD w' w S (.slice z f d) (km c)/\Below w w w':=by
 obtain⟨rows,t,E,F⟩:=W
 obtain⟨L,(A:Hid _),Z,K⟩:=yQ rows c t F
 subst Z
 obtain⟨N,O,fW,P⟩:=bh (xU w B C (L.map (jJ wE iE jP)) (n:=f) (by rw[<-t]at j;exact j) aa E) K j H
 clear t E F K j H
 go_enter func192,ntmps192
 go_wp2_with fail
 refine N.mono ?_
 rintro e y ⟨M,d1,rfl,Gg,s,(o:Hid _)⟩
 have k:=aH.rows.1 s
 have l:f=L.length:=k.cap.1
 have q:=ae l
 rcases v:f with _|bz
 .subst v;have D:=ae k;clear s k l;go_wp2_with fail;go_fit (Mz _ _ _);rintro e w2 ⟨rfl,i⟩;obtain⟨J,R⟩:=av (D.ah i) (ah o i);clear i D;go_wp2;go_ret;have I:L=[]:=List.eq_nil_of_length_eq_zero q.symm;have V:c=[]:=by have:=A.Y;rw[I]at this;exact this.symm
  rw[V];rw[I]at J;exact⟨M,d1,rfl,aH.opX J (λ_ h=>by cases h),R⟩
 .obtain⟨g,cc,X,u,nA⟩:=k.form (by intro e;rw[e]at l;simp at l;omega);injection X with e1 e2 e3
  subst e1;have r:Hid (Hy y y w g f d1 L):=⟨k,λ_ _ _=>rfl,Below.refl _ _,u,nA⟩
  clear s k l e2 e3;rw[<-v];have Q:=ae (My y L r pD);clear v;go_wp2_with fail;refine Q.mono ?_;rintro e w2 ⟨rfl,(p:Hid _)⟩;go_wp2;go_ret;have G:=aH.opX p.own (S:=S) (λx Y=>by
   refine eo.same (λb U=>?_) (O x (mK Nz L Y))
   have m:=P.Y b U
   exact(p.rest b (bW m o.size) (by have:=p.low;omega)).trans (o.block b m))
  have T:(eA Nz L).map (·.op)=km c:=by rw[Zt,Hx (λ(x:yP)=>x.op) (λ(a b:Mo.Op)=>if a.phase≠b.phase then decide (a.phase<b.phase)else decide (a.th<b.th)),A.Y];rfl
  rw[T]at G;exact⟨_,d1,rfl,G,o.trans p.ext⟩
end
theorem jv.same{m:Nat}{P:ux α}{A:Option Addr}{f:List α}(g:Good P)(j:Sm S w w')(s:∀c,A=some c->f≠[]->S c.block)(h:jv m P w S A f):jv m P w' S A f:=by obtain⟨rows,e,k,l⟩:=h;refine⟨rows,e,Rd.same j k λc n d=>s c n ?_,λi r x a b=>g.same j (l i r x a b)⟩;rintro rfl;exact d (by rw[List.eq_nil_of_length_eq_zero e];rfl)
def rN(w:World)(S:Nat->Prop)(A:Option Addr)(c:List Mo.Op):Prop:=jv 8 FD w S A c/\∀a,A=some a->c≠[]->S a.block
theorem rN.move{A:Option Addr}{l:List Mo.Op}(h:rN w S A l)(m:Sm S w w')(a:∀b,S b->S' b):rN w' S' A l:=⟨(h.1.same jz m h.2).mono jz a,λc d e=>a _ (h.2 c d e)⟩
theorem rN.nil(w:World)(S:Nat->Prop)(A:Option Addr):rN w S A []:=⟨jv.nil _ _ _ _ _,λ_ _ h=>absurd rfl h⟩
theorem dL.nil(w:World)(S:Nat->Prop)(k:IntKind)(A:Option Addr):dL w S k A []:=⟨bD.nil _ _ _,λ_ _ h=>absurd rfl h⟩
theorem eo.nil(w:World)(S:Nat->Prop)(f:α->List Value)(A:Option Addr):eo w S f A []:=⟨cN.nil _ _ _,λ_ _ h=>absurd rfl h⟩
structure Sl where
 A:Option Addr
 c:Nat
structure Sh where
 (cs bf nx ar fo se fr ol:Sl)
def eE:Sl:=⟨none,0⟩
structure oh (w:World) (S:Nat->Prop) (x:Mo.Tk) (s:Sh):Prop where
 cs:eo w S bj s.cs.A x.aQ.cases
 bf:dL w S .u64 s.bf.A x.buf
 nx:dL w S .u64 s.nx.A x.next
 ar:dL w S .u64 s.ar.A x.args
 fo:rN w S s.fo.A x.found
 se:dL w S .u64 s.se.A x.seen
 fr:eo w S fL s.fr.A x.aJ.free
 ol:eo w S kt s.ol.A x.aJ.old
 lb:x.buf.length<=s.bf.c
 la:x.args.length<=s.ar.c
 lf:x.found.length<=s.fo.c
 ls:x.seen.length<=s.se.c
 lr:x.aJ.free.length<=s.fr.c
 lo:x.aJ.old.length<=s.ol.c
theorem oh.move{s:Sh}(h:oh w S x s)(l:Sm S w w')(a:∀b,S b->S' b):oh w' S' x s:=⟨(h.cs.same l).mono a,(h.bf.same l).mono a,(h.nx.same l).mono a,(h.ar.same l).mono a,h.fo.move l a,(h.se.same l).mono a,(h.fr.same l).mono a,(h.ol.same l).mono a,h.lb,h.la,h.lf,h.ls,h.lr,h.lo⟩
structure Mm where
 g:Nat
 (vl vg vc:Value)
 G:List Acc
 C:List Int
 kp:Bool
def Mm.own(m:Mm)(b:Nat):Prop:=b=m.g\/m.vl.ownBlock=some b\/m.vg.ownBlock=some b\/m.vc.ownBlock=some b
structure xz (w:World) (m:Mm) (L:List Int) (q:Nat):Prop where
 mv:eD w 0 m.g m.vl m.vg m.vc L m.G m.C m.kp
 gl:m.G.length<=q
 cl:m.C.length<=64
theorem xz.lt{m:Mm}{L:List Int}(h:xz w m L q)(a:m.own b):b<w.heap.size:=by
 obtain⟨c,d,e,f⟩:=h.mv.nY;rcases a with rfl|a|a|a
 .exact c
 .exact d b a
 .exact e b a
 .exact f b a
theorem xz.more{m:Mm}{L:List Int}(h:xz w m L q)(a:Below w w w'):xz w' m L q:=⟨h.mv.ah a,h.gl,h.cl⟩
theorem xz.same{m:Mm}{L:List Int}(h:xz w m L q)(d:∀b,m.own b->w'.heap[b]?=w.heap[b]?):xz w' m L q:=⟨⟨(d _ (.inl rfl)).trans h.mv.blk,iL h.mv.words λb a=>d b (.inr (.inl a)),iL h.mv.log λb a=>d b (.inr (.inr (.inl a))),iL h.mv.counts λb a=>d b (.inr (.inr (.inr a))),h.mv.low⟩,h.gl,h.cl⟩
def Im(w:World)(X:Nat->Prop)(p:Nat)(m:Mm)(b:Nat):Prop:=b<w.heap.size/\b≠p/\¬m.own b/\¬X b
structure cP (w w':World) (p:Nat) (m m':Mm):Prop where
 lS:Below 0 w w'
 same:∀b,b<w.heap.size->b≠p->¬m.own b->w'.heap[b]?=w.heap[b]?
 own:∀b,m'.own b->m.own b\/w.heap.size<=b
 g:m'.g=m.g
section
variable{m m1 m':Mm}
theorem cP.refl(w:World)(p:Nat)(m:Mm):cP w w p m m:=⟨Below.refl _ _,λ_ _ _ _=>rfl,λ_ h=>.inl h,rfl⟩
theorem cP.trans(h:cP w w1 p m m1)(k:cP w1 w' p m1 m'):cP w w' p m m' :=
 have i:=h.lS.size
 ⟨h.lS.trans k.lS,λb a e d=>(k.same b aa e λf=>(h.own b f).elim d λg=>by omega).trans (h.same b a e d),λb a=>(k.own b a).elim (λc=>h.own b c) λc=>.inr aa,k.g.trans h.g⟩
theorem cP.ext(a:Below w w w')(p:Nat)(m:Mm):cP w w' p m m:=⟨a.mono (aZ _),λ_ h _ _=>a.block _ h,λ_ h=>.inl h,rfl⟩
theorem cP.put(c:Below 0 w w')(l:∀b,b<w.heap.size->b≠p->w'.heap[b]?=w.heap[b]?)(m:Mm):cP w w' p m m:=⟨c,λb h a _=>l b h a,λ_ h=>.inl h,rfl⟩
theorem cP.im(F:cP w w' p m m')(h:Im w X p m b):Im w' X p m' b:=⟨bW h.1 F.lS.size,h.2.1,λk=>(F.own b k).elim h.2.2.1 λl=>by have:=h.1;omega,h.2.2.2⟩
theorem cP.sm(F:cP w w' p m m'):Sm (Im w X p m) w w':=λb h=>F.same b h.1 h.2.1 h.2.2.1
end
def bI(c:dG)(A:Option Addr)(n k g:Nat)(t:Int)(r:Rn)(s:Sh)(o:Sl):Array Value :=
 #[.int .i64 r.k.pc,.int .i64 r.k.seq,.int .i64 r.k.aQ.kind,.int .i64 r.k.aQ.arg,.int .i64 r.k.aQ.value,.bool r.k.aQ.dflt,.slice s.cs.A r.k.aQ.cases.length s.cs.c,.bool r.k.p5,.int .i64 r.k.round,.int .i64 r.k.i,.int .i64 r.k.j,.int .i64 r.k.dK,.int .i64 r.k.js,.bool r.k.all,.int .i64 r.k.base.ix,.int .i64 r.k.base.tag,.slice s.bf.A r.k.buf.length s.bf.c,.slice s.nx.A r.k.next.length s.nx.c,.int .u64 r.k.word,.slice s.ar.A r.k.args.length s.ar.c,.slice s.fo.A r.k.found.length s.fo.c,.slice s.se.A r.k.seen.length s.se.c,.int .i64 r.k.aJ.own.ix,.int .i64 r.k.aJ.own.tag,.slice s.fr.A r.k.aJ.free.length s.fr.c,.slice s.ol.A r.k.aJ.old.length s.ol.c,.int .i64 r.k.aJ.spent,.int .i64 r.k.res.seq,.int .i64 r.k.res.cs,.int .i64 r.k.res.code,.int .i64 r.k.res.value,.bool r.k.pj,.bool r.k.waits,.bool r.k.pO,
  .int .i64 c.kind,.int .i64 c.threads,.int .i64 c.chans,.int .i64 c.cap,.int .i64 c.nodes,.int .i64 c.aP,.int .i64 c.aB,.int .i64 c.tags,.int .i64 c.bw,.int .i64 c.bn,.slice A n k,.pointer (some ⟨g,0,none⟩),.int .i64 t,.int .i64 r.note,.bool r.pj,.slice o.A r.ops.length o.c]
structure CfS (c:Mo.dG) (n:Nat) (t:Int):Prop where
 ee:Mo.aV c=true
 n:n=c.start.length
 th:c.threads<=4
 FF:Mo.bG c<=1048576
 t0:0<=t
 t1:t<c.threads
 k3:c.kind=3
structure RN (w:World) (X:Nat->Prop) (p:Nat) (c:Mo.dG) (A:Option Addr) (n k:Nat) (t:Int) (m:Mm) (q:Nat) (r:Mo.Rn) (s:Sh) (o:Sl):Prop where
 blk:ag w p 179 (bI c A n k m.g t r s o)
 mem:xz w m r.L q
 ln:(r.L.length:Int)=Mo.bG c
 cs:CfS c n t
 mp:¬m.own p
 mx:∀b,m.own b->¬X b
 xl:∀b,X b->b<w.heap.size
 cf:dL w (Im w X p m) .i64 A c.start
 tk:oh w (Im w X p m) r.k s
 op:rN w (Im w X p m) o.A r.ops
section
variable{c:Mo.dG}{A:Option Addr}{n:Nat}{m m':Mm}{s s':Sh}{o o':Sl}
theorem RN.lt(H:RN w X p c A n k t m q r s o):p<w.heap.size:=H.blk.lt
theorem RN.step(H:RN w X p c A n k t m q r s o)(F:cP w w' p m m')(f:ag w' p 179 arr)(j:arr=bI c A n k m'.g t r' s' o')(g:xz w' m' r'.L q')(d:r'.L.length=r.L.length)(tk:oh w' (Im w' X p m') r'.k s')(op:rN w' (Im w' X p m') o'.A r'.ops):RN w' X p c A n k t m' q' r' s' o' :=
 have e:=H.lt
 ⟨j▸f,g,d▸H.ln,H.cs,λh=>(F.own p h).elim H.mp λh=>by omega,λb h a=>(F.own b h).elim (λh=>H.mx b h a) λh=>by have:=H.xl b a;omega,λb a=>bW (H.xl b a) F.lS.size,(H.cf.same F.sm).mono λb h=>F.im h,tk,op⟩
theorem RN.tk'(H:RN w X p c A n k t m q r s o)(F:cP w w' p m m'):oh w' (Im w' X p m') r.k s:=H.tk.move F.sm λb h=>F.im h
theorem RN.op'(H:RN w X p c A n k t m q r s o)(F:cP w w' p m m'):rN w' (Im w' X p m') o.A r.ops:=H.op.move F.sm λb h=>F.im h
theorem RN.more(H:RN w X p c A n k t m q r s o)(a:Below w w w'):RN w' X p c A n k t m q r s o :=
 have F:=cP.ext a p m
 H.step F (H.blk.ah a) rfl (H.mem.more a) rfl (H.tk' F) (H.op' F)
theorem RN.abD(H:RN w X p c A n k t m q r s o)(d:∀b,b<w.heap.size->b≠p->w'.heap[b]?=w.heap[b]?):xz w' m r.L q:=H.mem.same λb a=>d b (H.mem.lt a) λe=>H.mp (e▸a)
theorem Im.fresh(H:RN w X p c A n k t m q r s o)(d:w.heap.size<=b)(a:b<w'.heap.size):Im w' X p m b:=⟨a,λe=>by have:=H.lt;omega,λh=>by have:=H.mem.lt h;omega,λh=>by have:=H.xl b h;omega⟩
end
def gv(p:Nat)(w a:World):Prop:=Below 0 w a/\∀b,b<w.heap.size->b≠p->a.heap[b]?=w.heap[b]?
theorem gv.refl(w:World)(p:Nat):gv p w w:=⟨Below.refl _ _,λ_ _ _=>rfl⟩
theorem gv.set(h:gv p w w1)(i:Nat)(u:Value):gv p w (w1.setCell ⟨p,i,none⟩ u):=⟨h.1.setCell (p:=⟨p,i,none⟩) (aZ _) u,λb c a=>(dE _ _ _ _ a).trans (h.2 b c a)⟩
theorem gv.more(h:gv p w w1)(k:Below w1 w1 w2):gv p w w2:=⟨h.1.trans (k.mono (aZ _)),λb a c=>(k.block b (bW a h.1.size)).trans (h.2 b a c)⟩
theorem gv.alloc(h:gv p w w1)(o:Obj):gv p w (w1.alloc o):=h.more (aj (ai _) o)
theorem gv.drewN(h:gv p w w1)(j:Nat):gv p w (w1.drewN j):=h.more (bZ (ai _) j)
theorem gv.drew(h:gv p w w1):gv p w w1.drew:=h.more (ai _).drew
theorem gv.fr(h:gv p w w1)(m:Mm):cP w w1 p m m:=cP.put h.1 h.2 m
theorem gv.b9(h:gv p w w1){g:Nat}(f:w.heap.size<=g)(i:Nat)(u:Value):gv p w (w1.setCell ⟨g,i,none⟩ u):=⟨h.1.setCell (p:=⟨g,i,none⟩) (aZ _) u,λb a c=>(dE _ _ _ _ (by show b≠g;omega)).trans (h.2 b a c)⟩
theorem RN.at_{c:dG}{A:Option Addr}{n:Nat}{m:Mm}{s s':Sh}{o o':Sl}(H:RN w X p c A n k t m q r s o)(hA:gv p w w')(hK:ag w' p 179 arr)(he:arr=bI c A n k m.g t r' s' o')(hL:r'.L=r.L)(tk:oh w (Im w X p m) r'.k s')(op:rN w (Im w X p m) o'.A r'.ops):RN w' X p c A n k t m q r' s' o':=H.step (hA.fr m) hK he (hL▸H.abD hA.2) (by rw[hL]) (tk.move (hA.fr m).sm λ_ h=>(hA.fr m).im h) (op.move (hA.fr m).sm λ_ h=>(hA.fr m).im h)
theorem RN.acc{c:dG}{A:Option Addr}{n:Nat}{m:Mm}{s:Sh}{o:Sl}(H:RN w X p c A n k t m q r s o){L:List Int}{a:Acc}(h:ug w 0 m.g m.vl m.vg m.vc L (uh m.kp m.G a) (ju m.C t) m.kp w')(j:L.length=r.L.length):∃f,RN w' X p c A n k t f (q+1) {r with L:=L} s o/\cP w w' p m f:=by
 obtain⟨d,l,g,h2,h3,h4,h5⟩:=h;have F:cP w w' p m ⟨m.g,m.vl,d,l,uh m.kp m.G a,ju m.C t,m.kp⟩:=by exact abE
 have i:w'.heap[p]?=w.heap[p]?:=h4 p H.lt (λe=>H.mp (.inl e)) (λe=>H.mp (.inr (.inl e))) (λe=>H.mp (.inr (.inr (.inl e)))) (λe=>H.mp (.inr (.inr (.inr e))));refine⟨_,H.step F (i.trans H.blk) rfl ⟨g,?_,FX t H.mem.cl⟩ j (H.tk' F) (H.op' F),F⟩;have:=H.mem.gl;unfold uh;dsimp only;split
 .simp;omega
 .omega
def cW(X:Nat->Prop)(p:Nat)(c:dG)(A:Option Addr)(n k:Nat)(t:Int)(m:Mm)(q:Nat)(f:Rn)(w:World)(e:Ending)(d:World):Prop:=e=.returned (.tuple #[])/\∃a g b,RN d X p c A n k t a q f g b/\cP w d p m a
theorem cW.of{c:dG}{A:Option Addr}{n:Nat}{m:Mm}{s:Sh}{o:Sl}(H:RN w X p c A n k t m q r s o)(a:gv p w w')(l:ag w' p 179 arr){f:Sh}{d:Sl}(u:arr=bI c A n k m.g t r' f d)(h:r'.L=r.L)(D:oh w' (Im w' X p m) r'.k f)(C:rN w' (Im w' X p m) d.A r'.ops):cW X p c A n k t m q r' w (.returned (.tuple #[])) w':=⟨rfl,m,f,d,H.step (a.fr m) l u (h▸H.abD a.2) (by rw[h]) D C,a.fr m⟩
theorem cW.at_{c:dG}{A:Option Addr}{n:Nat}{m:Mm}{s:Sh}{o:Sl}(H:RN w X p c A n k t m q r s o)(hA:gv p w w')(hK:ag w' p 179 arr){s':Sh}{o':Sl}(he:arr=bI c A n k m.g t r' s' o')(hL:r'.L=r.L)(tk:oh w (Im w X p m) r'.k s')(op:rN w (Im w X p m) o'.A r'.ops):cW X p c A n k t m q r' w (.returned (.tuple #[])) w':=⟨rfl,m,s',o',H.at_ hA hK he hL tk op,hA.fr m⟩
theorem ag.jd{g:Nat}{t:TypeId}{cs:Array Value}(h:ag w g t cs):ag w.drew g t cs:=h
theorem ag.of{g:Nat}{t:TypeId}{a b:Array Value}(h:ag w g t a)(e:a=b):ag w g t b:=e▸h
theorem cW.leaf{c:dG}{A:Option Addr}{n:Nat}{m:Mm}{s:Sh}{o:Sl}(H:RN w X p c A n k t m q r s o)(s':Sh)(o':Sl)(tk:oh w (Im w X p m) r'.k s')(op:rN w (Im w X p m) o'.A r'.ops)(hL:r'.L=r.L)(hA:gv p w w':=by with_reducible(repeat(first|apply gv.set|apply gv.drewN|apply gv.drew|apply gv.alloc|exact gv.refl _ _)))(hK:ag w p 179 (bI c A n k m.g t r s o)->ag w' p 179 (bI c A n k m.g t r' s' o'):=by intro h;apply ag.of;(with_reducible(repeat(first|apply ag.bp|apply ag.drewN|apply ag.jd|apply ag.alloc|exact h)));rfl):cW X p c A n k t m q r' w (.returned (.tuple #[])) w':=cW.at_ H hA (hK H.blk) rfl hL tk op
theorem RN.leaf{c:dG}{A:Option Addr}{n:Nat}{m:Mm}{s:Sh}{o:Sl}(H:RN w X p c A n k t m q r s o)(s':Sh)(o':Sl)(tk:oh w (Im w X p m) r'.k s')(op:rN w (Im w X p m) o'.A r'.ops)(hL:r'.L=r.L)(hA:gv p w w':=by with_reducible(repeat(first|apply gv.set|apply gv.drewN|apply gv.drew|apply gv.alloc|exact gv.refl _ _)))(hK:ag w p 179 (bI c A n k m.g t r s o)->ag w' p 179 (bI c A n k m.g t r' s' o'):=by intro h;apply ag.of;(with_reducible(repeat(first|apply ag.bp|apply ag.drewN|apply ag.jd|apply ag.alloc|exact h)));rfl):RN w' X p c A n k t m q r' s' o':=H.at_ hA (hK H.blk) rfl hL tk op
theorem cW.then{c:dG}{A:Option Addr}{n:Nat}{m a:Mm}(F:cP w w1 p m a)(h:cW X p c A n k t a q r' w1 e w'):cW X p c A n k t m q r' w e w':=by obtain⟨b,g,j,i,d,f⟩:=h;exact⟨b,g,j,i,d,F.trans f⟩
section
variable{c:Mo.dG}{A:Option Addr}{n:Nat}{m:Mm}{s:Sh}{o:Sl}
def RnV(X:Nat->Prop)(p:Nat)(c:dG)(A:Option Addr)(n k:Nat)(t:Int)(m:Mm)(q:Nat)(f:Rn)(s:Sh)(o:Sl)(v:Value)(w:World)(e:Ending)(d:World):Prop:=e=.returned v/\∃a,RN d X p c A n k t a q f s o/\cP w d p m a
theorem RN.FF(H:RN w X p c A n k t m q r s o):r.L.length<=2000000:=by have:=H.ln;have:=H.cs.FF;omega
theorem RN.word(H:RN w X p c A n k t m q r s o){a:Int}(d:0<=a)(f:a<bG c):∃j:Nat,a=j/\r.L[j]?=some (aG r.L a):=by
 obtain⟨j,rfl⟩:=Int.eq_ofNat_of_zero_le d;have b:j<r.L.length:=by have:=H.ln;omega
 refine⟨j,rfl,?_⟩;unfold aG;rw[au aa,fR,ew,cq b];rfl
theorem Mo.vx(L:List Int)(j:Nat)(x:Int):Mo.setAt L j x=L.set j x:=by unfold Mo.setAt;rw[au aa,fR]
theorem QF(H:RN w X p c A n k t m q r s o)(M:q<=900000)(a:Int)(l:0<=a)(u:a<bG c) :
 Calls prog 134 #[.pointer p,a] w (RnV X p c A n k t m (q+1) r s o (.int .u64 (aG r.L a)) w):=by
 obtain⟨j,rfl,g⟩:=H.word l u
 obtain⟨x,f⟩:∃x,x=aG r.L j:=⟨_,rfl⟩
 rw[<-f]at g ⊢
 have b:=ae (H.more (ai w).drew)
 have i:=ae (P6 _ 0 m.g m.vl m.vg m.vc r.L m.G m.C m.kp t j x b.Y.mem.mv b.Y.mem.cl (bm b.Y.mem.gl (by omega)) H.FF g)
 have B:Hid (cP w w.drew p m m):=cP.ext (ai w).drew p m
 have L:=H.lt
 have D:=ae g
 have K:w.drew.cell? ⟨p,45,none⟩=some (.pointer (some ⟨m.g,0,none⟩))/\w.drew.cell? ⟨p,46,none⟩=some (.int .i64 t):=⟨ag.cell b.Y.blk 45,ag.cell b.Y.blk 46⟩
 clear H g l u f
 go_enter func134,ntmps134
 go_wp2
 go_region_held3(λy=>y.cell? ⟨p,45,none⟩=some (.pointer (some ⟨m.g,0,none⟩))/\y.cell? ⟨p,46,none⟩=some (.int .i64 t)) (assumption) (
  ((with_reducible go_fit i.Y);rintro e z ⟨rfl,v⟩;obtain⟨I,d,h⟩:=b.Y.acc v (dN);have E:=ag.cell d.blk 45;have F:=ag.cell d.blk 46;have G:z.cell? ⟨p,45,none⟩=some (.pointer (some ⟨m.g,0,none⟩))/\z.cell? ⟨p,46,none⟩=some (.int .i64 t):=⟨by rw[E,h.g];rfl,F⟩))
 all_goals
  rw[yi D.Y]at d;obtain⟨C,J⟩:=av d (B.Y.trans h);clear v d h i;go_wp2;go_ret;exact⟨rfl,I,C.Y,J.Y⟩
theorem MA(H:RN w X p c A n k t m q r s o)(a:Int)(z:0<=a)(h:bG c<=a) :
 Calls prog 134 #[.pointer p,a] w (RnV X p c A n k t m (q+1) r s o (.int .u64 (aG r.L a)) w):=by
 have l:Hid (aG r.L a=0):=by unfold Hid aG;rw[au (by omega),ew,List.getElem?_eq_none (by have:=H.ln;omega)];rfl
 rw[l.Y]
 have d:r.L≠[]:=by
  intro e;have h:=H.ln;rw[e]at h;have F:=Mo.aO H.cs.ee;have G:0<bG c:=by unfold bG;rw[au (by rw[H.cs.ee];decide)];have I:=oI H.cs.ee;have J:=lL H.cs.ee (i:=bX c) (by omega) (by omega);unfold bV;omega
  simp at h;omega
 have g:=ae (H.more (ai w).drew)
 have u:=ae (P9 _ 0 m.g m.vl m.vg m.vc r.L m.G m.C m.kp t a g.Y.mem.mv d (.inr (by have:=H.ln;omega)))
 have y:Hid (cP w w.drew p m m):=cP.ext (ai w).drew p m
 have E:=H.lt
 have D:w.drew.cell? ⟨p,45,none⟩=some (.pointer (some ⟨m.g,0,none⟩))/\w.drew.cell? ⟨p,46,none⟩=some (.int .i64 t):=⟨ag.cell g.Y.blk 45,ag.cell g.Y.blk 46⟩
 clear H z h d l
 go_enter func134,ntmps134
 go_wp2
 go_region_held3(λv=>v.cell? ⟨p,45,none⟩=some (.pointer (some ⟨m.g,0,none⟩))/\v.cell? ⟨p,46,none⟩=some (.int .i64 t)) (assumption) (
  ((with_reducible go_fit u.Y);rintro e x ⟨rfl,j⟩;have f:=g.Y.more j;have B:x.cell? ⟨p,45,none⟩=some (.pointer (some ⟨m.g,0,none⟩))/\x.cell? ⟨p,46,none⟩=some (.int .i64 t):=⟨ag.cell f.blk 45,ag.cell f.blk 46⟩))
 all_goals
  obtain⟨b,C⟩:=av f (y.Y.trans (cP.ext j p m));clear j f u;go_wp2;go_ret;exact⟨rfl,m,b.Y.step (cP.refl _ _ _) b.Y.blk rfl ⟨b.Y.mem.mv,Nat.le_succ_of_le b.Y.mem.gl,b.Y.mem.cl⟩ rfl b.Y.tk b.Y.op,C.Y⟩
theorem di(H:RN w X p c A n k t m q r s o)(f:q<=900000)(a:Int)(d:0<=a) :
 Calls prog 134 #[.pointer p,a] w (RnV X p c A n k t m (q+1) r s o (.int .u64 (aG r.L a)) w):=by
 by_cases b:a<bG c
 .exact QF H f a d b
 .exact MA H a d aa
theorem fz(H:RN w X p c A n k t m q r s o)(F:q<=900000)(a y:Int)(l:0<=a)(u:a<bG c) :
 Calls prog 135 #[.pointer p,a,.int .u64 y] w (RnV X p c A n k t m (q+1) (r.store a y) s o (.tuple #[]) w):=by
 obtain⟨j,rfl,x⟩:=H.word l u
 have d:=ae (H.more (ai w).drew)
 have f:=ae (LS _ 0 m.g m.vl m.vg m.vc r.L m.G m.C m.kp t j _ y d.mem.mv d.mem.cl (bm d.mem.gl aa) H.FF x)
 obtain⟨i,-,B⟩:=ag.aF H.blk
 unfold bI at i
 clear H x l u
 go_enter func135,ntmps135
 go_wp2_with fail
 go_still_tail 10,(by kernel_rfl)
 change wpList _ _ _ _ _ w.drew
 clear i B
 obtain⟨E,b⟩:=aw w.drew
 have h:Hid (cP w E p m m):=by rw[b];exact cP.ext (ai w).drew p m
 rw[<-b]at d f ⊢
 clear b
 go_wp2_with fail
 refine f.mono ?_
 rintro e G ⟨rfl,v⟩
 obtain⟨C,(z:Hid _),g⟩:=d.acc v (dN)
 have D:=ae (h.trans g)
 clear v g f d h
 go_wp2
 go_end0
 refine⟨rfl,C,?_,D⟩
 unfold Rn.store
 rw[vx]
 exact z.Y
theorem oT(H:RN w X p c A n k t m q r s o)(V:q<=900000)(a want y:Int)(E:0<=a)(F:a<bG c) :
 Calls prog 155 #[.pointer p,a,.int .u64 want,.int .u64 y] w (RnV X p c A n k t m (q+1) (if aG r.L a=want then r.store a y else r) s o (aG r.L a==want) w):=by
 obtain⟨j,rfl,i⟩:=H.word E F
 obtain⟨x,g⟩:∃x,x=aG r.L j:=⟨_,rfl⟩
 rw[<-g]at i ⊢
 obtain⟨v,b⟩:∃v,(if x=want then y else x)=v:=⟨_,rfl⟩
 obtain⟨z,B⟩:∃z,(x==want)=z:=⟨_,rfl⟩
 have f:=ae (H.more (ai w).drew)
 have C:=ae (P7 _ 0 m.g m.vl m.vg m.vc r.L m.G m.C m.kp t j x want y v z f.Y.mem.mv f.Y.mem.cl (bm f.Y.mem.gl (by omega)) H.FF i ⟨b,B⟩)
 have L:Hid (cP w w.drew p m m):=cP.ext (ai w).drew p m
 have U:=H.lt
 obtain⟨M,u⟩:=av i b
 obtain⟨I,d⟩:∃I,I=if x=want then r.store j y else r:=⟨_,rfl⟩
 rw[B, <-d]
 have Q:=ae d
 have T:w.drew.cell? ⟨p,45,none⟩=some (.pointer (some ⟨m.g,0,none⟩))/\w.drew.cell? ⟨p,46,none⟩=some (.int .i64 t):=⟨ag.cell f.Y.blk 45,ag.cell f.Y.blk 46⟩
 clear H i E F g b B d
 go_enter func155,ntmps155
 go_wp2
 go_region_held3(λJ=>J.cell? ⟨p,45,none⟩=some (.pointer (some ⟨m.g,0,none⟩))/\J.cell? ⟨p,46,none⟩=some (.int .i64 t)) (assumption) (
  ((with_reducible go_fit C.Y);rintro e K ⟨rfl,G⟩;obtain⟨R,h,l⟩:=f.Y.acc G (dN);have N:=ag.cell h.blk 45;have O:=ag.cell h.blk 46;have P:K.cell? ⟨p,45,none⟩=some (.pointer (some ⟨m.g,0,none⟩))/\K.cell? ⟨p,46,none⟩=some (.int .i64 t):=⟨by rw[N,l.g];rfl,O⟩))
 all_goals
  obtain⟨D,S⟩:=av h (L.Y.trans l);clear G h l C;go_wp2;go_ret;refine⟨rfl,R,?_,S.Y⟩;have b:=u.Y;rw[Q.Y];by_cases e:x=want
  .rw[ay e]at b ⊢;subst b;unfold Rn.store;rw[vx];exact D.Y
  .rw[au e]at b ⊢;subst b;have:=D.Y;rw[yi M.Y]at this;exact this
theorem yS(H:RN w X p c A n k t m q r s o):Calls prog 188 #[.pointer p] w (cW X p c A n k t m q (Rn.again c r) w):=by
 obtain⟨d,e,f⟩:=ag.aF H.blk;unfold bI at d;have HH:=ae H;clear H;rcases b:r.k.p5 with _|_
 .by_cases a:c.aB<r.k.round
  .have hE:Rn.again c r=r.pc 16:=by unfold Rn.again;rw[ay ⟨b,a⟩]
   exact UK
  .have hE:Rn.again c r=r.pc 3:=by unfold Rn.again;rw[au (λh=>a h.2),au (λh=>by rw[b]at h;cases h.1)]
   exact UK
 .by_cases a:3<r.k.round
  .have hE:Rn.again c r=r.pc 19:=by unfold Rn.again;rw[au (λh=>by rw[b]at h;cases h.1),ay ⟨b,a⟩]
   exact UK
  .have hE:Rn.again c r=r.pc 3:=by unfold Rn.again;rw[au (λh=>by rw[b]at h;cases h.1),au (λh=>a h.2)]
   exact UK
def VO(w:World)(p i:Nat):Value:=(w.cell? ⟨p,i,none⟩).getD oZ
structure RX (w:World) (p:Nat) (m:Mm) (lo hi:Nat) (wx:World):Prop where
 lS:Below 0 w wx
 eq:∀b,b<w.heap.size->b≠p->¬m.own b->wx.heap[b]?=w.heap[b]?
 pk:∃arr Zw,ag w p 179 Zw/\ag wx p 179 arr/\arr.size=Zw.size/\∀i,i<lo\/hi<=i->arr[i]?=Zw[i]?
section
variable{lo:Nat}
theorem RX.start(h:ag w p 179 arr)(m:Mm)(lo hi:Nat):RX w p m lo hi w.drew:=⟨(Below.refl 0 w).drew,λ_ _ _ _=>rfl,arr,arr,h,h,rfl,λ_ _=>rfl⟩
theorem RX.below(h:RX w p m lo hi wx)(l:Below wx wx wy):RX w p m lo hi wy:=by obtain⟨a,d,e,f,g,i⟩:=h.pk;exact⟨h.lS.trans (l.mono (aZ _)),λb c k j=>(l.block b (bW c h.lS.size)).trans (h.eq b c k j),a,d,e,f.ah l,g,i⟩
theorem RX.alloc(h:RX w p m lo hi wx)(o:Obj):RX w p m lo hi (wx.alloc o):=h.below (aj (ai _) o)
theorem RX.set(h:RX w p m lo hi wx)(C:lo<=i/\i<hi)(u:Value):RX w p m lo hi (wx.setCell ⟨p,i,none⟩ u):=by obtain⟨a,d,e,f,g,k⟩:=h.pk;refine⟨h.lS.setCell (p:=⟨p,i,none⟩) (aZ _) u,λb l c o=>(dE _ _ _ _ c).trans (h.eq b l c o),_,d,e,f.bp i u,by rw[Array.size_setIfInBounds];exact g,λj n=>?_⟩;rw[Array.getElem?_setIfInBounds_ne (by omega)];exact k j n
theorem RX.b9(h:RX w p m lo hi wx){g:Nat}(C:w.heap.size<=g)(i:Nat)(u:Value):RX w p m lo hi (wx.setCell ⟨g,i,none⟩ u):=by obtain⟨a,d,c,e,f,j⟩:=h.pk;exact⟨h.lS.setCell (p:=⟨g,i,none⟩) (aZ _) u,λb k n l=>(dE _ _ _ _ (by show b≠g;omega)).trans (h.eq b k n l),a,d,c,e.b9 (by have:=c.lt;show p≠g;omega) u,f,j⟩
theorem RX.cell(h:RX w p m lo hi wx)(f:ag w p 179 arr)(l:i<lo\/hi<=i):wx.cell? ⟨p,i,none⟩=arr[i]?:=by
 obtain⟨a,c,b,d,g,e⟩:=h.pk;have:c=arr:=by unfold ag at b f;rw[b]at f;injection f with f;injection f
 rw[ag.cell d i,e i l,this]
theorem RX.some_(h:RX w p m lo hi wx)(d:ag w p 179 arr)(j:i<arr.size):wx.cell? ⟨p,i,none⟩=some (VO wx p i):=by
 unfold VO;obtain⟨a,c,b,e,f,g⟩:=h.pk;have:c=arr:=by unfold ag at b d;rw[b]at d;injection d with d;injection d
 subst this;rw[ag.cell e i,Array.getElem?_eq_getElem (by rw[f];exact j)];rfl
theorem RX.free(h:RX w p m lo hi wx)(i:Nat):wx.frozen? ⟨p,i,none⟩=false:=by obtain⟨a,c,d,b,e,f⟩:=h.pk;exact ag.free b i
theorem RX.lt(h:RX w p m lo hi wx):p<wx.heap.size:=by obtain⟨a,c,d,b,e,f⟩:=h.pk;exact b.lt
theorem RN.kept{a:Mm}(h:RN w' X p c A n k t a q' r' s o)(F:cP wx w' p m a)(e:bI c A n k m.g t r' s o=arr):ag w' p 179 arr:=by have:=h.blk;rw[F.g]at this;rw[<-e];exact this
theorem RX.acc(h:RX w p m lo hi wx)(f:ag w p 179 arr){j:Mm}(F:cP wx wy p m j)(g:ag wy p 179 arr):RX w p m lo hi wy:=⟨h.lS.trans F.lS,λb a d c=>(F.same b (bW a h.lS.size) d c).trans (h.eq b a d c),arr,arr,f,g,rfl,λ_ _=>rfl⟩
theorem RX.blk(h:RX w p m lo hi wx){d:TypeId}{cs:Array Value}{g:Nat}(a:ag w g d cs)(f:g≠p)(l:¬m.own g):ag wx g d cs:=(h.eq g a.lt f l).trans a
end
theorem gw(h:P:=by with_reducible(repeat(first|assumption|exact RX.start HH.Y.blk _ _ _|exact RX.start ir.Y.blk _ _ _|refine RX.alloc ?_ _|refine RX.set ?_ (by decide) _))):P:=h
theorem J1(h:P:=by with_reducible(repeat(first|assumption|exact RX.iD Sg.Y.blk _ _ _ _|refine RX.alloc ?_ _|refine RX.set ?_ (by decide) _))):P:=h
theorem WW(h:P:=by with_reducible(repeat(first|apply gv.set|apply gv.drewN|apply gv.drew|apply gv.alloc|exact gv.refl _ _|exact gv.more (gv.refl _ _) oY))):P:=h
theorem RN.cT(H:RN w X p c A n k t m q r s o):RN w.drew X p c A n k t m q r s o/\cP w w.drew p m m/\Hid (∀wx wy,RN wx X p c A n k t m q r s o->Below wx wx wy->RN wy X p c A n k t m q r s o)/\Hid (∀wx wy,cP w wx p m m->Below wx wx wy->cP w wy p m m)/\p<w.heap.size:=⟨H.more (ai w).drew,cP.ext (ai w).drew p m,ae (λ_ _ h a=>h.more a),ae (λ_ _ h a=>h.trans (cP.ext a p m)),H.lt⟩
theorem RN.cx(H:RN w X p c A n k t m q r s o)(a:World)(d:RX w p m 0 0 a)(i:Nat):a.cell? ⟨p,i,none⟩=(bI c A n k m.g t r s o)[i]?:=d.cell H.blk (.inr (aZ _))
theorem RN.FH(H:RN w X p c A n k t m q r s o)(d a:Nat)(f:a<=50:=by decide):(∀wx,RX w p m d a wx->∀i,i<d\/a<=i->wx.cell? ⟨p,i,none⟩=(bI c A n k m.g t r s o)[i]?)/\(∀wx,RX w p m d a wx->∀i,d<=i->i<a->wx.cell? ⟨p,i,none⟩=some (VO wx p i))/\(∀wx,RX w p m d a wx->∀i,wx.frozen? ⟨p,i,none⟩=false)/\∀wx,RX w p m d a wx->p<wx.heap.size:=⟨λ_ b _ a=>b.cell H.blk a,λ_ b i _ a=>b.some_ H.blk (i:=i) (bW a f),λ_ b i=>b.free i,λ_ b=>b.lt⟩
theorem EG(H:RN w X p c A n k t m q r s o):Calls prog 189 #[.pointer p] w (cW X p c A n k t m q (Rn.refuse r) w):=by
 have b:=ae (λu=>JB u r.k.aJ s.fr.A s.fr.c s.ol.A s.ol.c);unfold mo at b;have HH:=ae H;have x:=H.lt;clear H;obtain⟨d,j,i,h⟩:=HH.Y.FH 27 31;unfold bI at d;go_enter func189,ntmps189;go_wp2;go_region_held3(RX w p m 27 31) (exact gw) (((with_reducible go_fit (b.Y _));rintro e l ⟨rfl,a⟩;have g:=RX.below (by assumption) a));have oY:Below w w l:=ah (ai w).drew a;obtain⟨f,v,-⟩:=ag.aF (HH.Y.blk.ah oY);have y:=(HH.Y.blk.ah oY).lt;unfold bI at f;clear d j i h g;go_wp2;go_end0;apply cW.at_ (s':=s) (o':=o) HH.Y;case hA=>exact WW
 case hK=>(with_reducible(repeat(first|apply ag.bp|apply ag.drewN|apply ag.jd|apply ag.alloc|exact(HH.Y.blk.ah oY))))
 case he=>rfl
 case hL=>rfl
 case tk=>exact{HH.Y.tk with}
 case op=>exact HH.Y.op
def jA(x:Tk)(s:Sh):List Value:=[.int .i64 x.pc,.int .i64 x.seq,.int .i64 x.aQ.kind,.int .i64 x.aQ.arg,.int .i64 x.aQ.value,.bool x.aQ.dflt,.slice s.cs.A x.aQ.cases.length s.cs.c,.bool x.p5,.int .i64 x.round,.int .i64 x.i,.int .i64 x.j,.int .i64 x.dK,.int .i64 x.js,.bool x.all,.int .i64 x.base.ix,.int .i64 x.base.tag,.slice s.bf.A x.buf.length s.bf.c,.slice s.nx.A x.next.length s.nx.c,.int .u64 x.word,.slice s.ar.A x.args.length s.ar.c,.slice s.fo.A x.found.length s.fo.c,.slice s.se.A x.seen.length s.se.c,.int .i64 x.aJ.own.ix,.int .i64 x.aJ.own.tag,.slice s.fr.A x.aJ.free.length s.fr.c,.slice s.ol.A x.aJ.old.length s.ol.c,.int .i64 x.aJ.spent,.int .i64 x.res.seq,.int .i64 x.res.cs,.int .i64 x.res.code,.int .i64 x.res.value,.bool x.pj,.bool x.waits,.bool x.pO]
def rnT(c:dG)(A:Option Addr)(n k g:Nat)(t:Int)(r:Rn)(o:Sl):List Value:=[c.kind,c.threads,c.chans,c.cap,c.nodes,c.aP,c.aB,c.tags,c.bw,c.bn,.slice A n k,.pointer g,t,r.note,r.pj,.slice o.A r.ops.length o.c]
theorem QG(c:dG)(A:Option Addr)(n k g:Nat)(t:Int)(r:Rn)(s:Sh)(o:Sl):bI c A n k g t r s o=(jA r.k s++rnT c A n k g t r o).toArray:=rfl
theorem gv.ax(h:gv p w w1)(i:Nat)(vs:List Value):gv p w (ax w1 p i vs):=⟨az (aZ _) vs _ i h.1,λb c a=>(aM a vs i).trans (h.2 b c a)⟩
theorem ag.whole{g:Nat}(h:ag w p 179 (bI c A n k g t r s o))(x:Tk)(s':Sh):ag (ax w p 0 (jA x s')) p 179 (bI c A n k g t {r with k:=x} s' o):=by rw[QG]at h;have:=dW (jA x s') w 0 _ h;rw[AM _ _ _ (by rfl)]at this;exact this
theorem jQ(g:Nat):∀(a:List Value) (w:World) (i:Nat),w.setCells g i a=ax w g i a
 |[],_,_=>rfl
 |_::a,w,i=>by rw[World.setCells];exact jQ g a _ (i+1)
theorem ag.there{g:Nat}{a:TypeId}{cs:Array Value}(h:ag w g a cs)(i j:Nat)(d:i+j<=cs.size):w.there g i j:=λx b=>⟨by rw[h.cell (i+x),Array.getElem?_eq_getElem aa];rfl,h.free _⟩
theorem gR(x:Tk)(s:Sh):(jA x s).toArray.all (·.oneCell')=true:=all_oneCell_toArray (List.all_eq_true.1 (by rfl))
theorem cW.after(h:cW X p c A n k t m q r' w1 e w')(hA:gv p w w1):cW X p c A n k t m q r' w e w':=cW.then (hA.fr m) h
theorem vy(H:RN w X p c A n k t m q r s o)(u:0<=r.k.round)(y:r.k.round<=1000000000):Calls prog 141 #[.pointer p] w (cW X p c A n k t m q (Rn.fail c r) w):=by
 obtain⟨g,j,l⟩:=ag.aF H.blk;unfold bI at g;have b:=ae H;clear H;have d:Rn.fail c r=Rn.again c {r with k:={r.k with round:=r.k.round+1,found:=[]}}:=rfl;rw[d];have a:=ae (λi (h:RN i X p c A n k t m q {r with k:={r.k with round:=r.k.round+1,found:=[]}} {s with fo:=eE} o)=>yS h);clear d;go_enter func141,ntmps141;go_wp2_with fail;go_fit (a _ ?_)
 .exact RN.leaf b {s with fo:=eE} o {b.tk with fo:=rN.nil _ _ _,lf:=aZ _} b.op rfl
 .rintro e v ⟨rfl,(f:Hid _)⟩;go_wp2;go_end0;refine cW.after ⟨rfl,f⟩ ?_;exact WW
theorem pM(H:RN w X p c A n k t m q r s o)(f:0<=r.k.i)(g:r.k.i<=1000000000):Calls prog 147 #[.pointer p] w (cW X p c A n k t m q (Rn.gg c r) w):=by
 obtain⟨a,d,e⟩:=ag.aF H.blk;unfold bI at a;have HH:=ae H;clear H;by_cases hi:r.k.i+1=c.threads
 .have hE:Rn.gg c r={r with k:={r.k with i:=0,dK:=0,pc:=11}}:=by unfold Rn.gg;rw[ay hi]
  rw[hE];have b:(r.k.i+1==c.threads)=true:=by rw[hi];exact beq_self_eq_true _
  exact WX
 .have hE:Rn.gg c r={r with k:={r.k with i:=r.k.i+1,pc:=8}}:=by unfold Rn.gg;rw[au hi]
  rw[hE];have b:(r.k.i+1==c.threads)=false:=by rw[dp];exact hi
  exact WX
theorem ra(H:RN w X p c A n k t m q r s o):Calls prog 167 #[.pointer (some ⟨p,0,none⟩)] w (cW X p c A n k t m q r.finish w):=by
 obtain⟨b,f,h⟩:=ag.aF H.blk;unfold bI at b;have a:=ae H;clear H;have e:RN (w.setCell ⟨p,47,none⟩ (.int .i64 3)) X p c A n k t m q {r with note:=3} s o:=RN.leaf a s o {a.tk with} a.op rfl;have g:gv p w (w.setCell ⟨p,47,none⟩ (.int .i64 3)):=(gv.refl _ _).set _ _;go_enter func167,ntmps167;go_wp2_with fail;clear b f h a;generalize w.setCell ⟨p,47,none⟩ (.int .i64 3)=i at *;obtain⟨b,f,h⟩:=ag.aF e.blk;unfold bI at b;obtain⟨a,j⟩:=av e g;clear e g;go_still_tail 24,(by kernel_rfl)
 change wpList _ _ _ _ _ i.drew;refine wpList_store_mid rfl 75 _ _ rfl p 0 (jA (jc 0 r.k.seq r.k.aQ r.k.aJ r.k.res false) {cs:=s.cs,bf:=eE,nx:=eE,ar:=eE,fo:=eE,se:=eE,fr:=s.fr,ol:=s.ol}).toArray rfl rfl (ag.there (ag.jd a.blk) 0 34 (by show 34<=50;decide)) (by kernel_rfl) (gR _ _) ?_;rw[jQ];clear b f;generalize d:ax i.drew p 0 (jA (jc 0 r.k.seq r.k.aQ r.k.aJ r.k.res false) {cs:=s.cs,bf:=eE,nx:=eE,ar:=eE,fo:=eE,se:=eE,fr:=s.fr,ol:=s.ol}).toArray.toList=u;have l:=ae d;clear d;go_wp2;go_end0;rw[<-l.Y];refine cW.after ?_ j;apply cW.at_ (s':={cs:=s.cs,bf:=eE,nx:=eE,ar:=eE,fo:=eE,se:=eE,fr:=s.fr,ol:=s.ol}) (o':=o) a;case hA=>exact(gv.refl _ _).drew.ax _ _
 case hK=>exact ag.whole (ag.jd a.blk) _ _
 case he=>rfl
 case hL=>rfl
 case tk=>exact⟨a.tk.cs,dL.nil _ _ _ _,dL.nil _ _ _ _,dL.nil _ _ _ _,rN.nil _ _ _,dL.nil _ _ _ _,a.tk.fr,a.tk.ol,aZ _,aZ _,aZ _,aZ _,a.tk.lr,a.tk.lo⟩
 case op=>exact a.op
theorem wU.tk{P:Pl}{u:Nat}(h:oh w1 S x s)(a:aH w1 w 219 2 fL (.slice A1 P.free.length n1) P.free)(d:aH w1 w 222 3 kt (.slice B1 P.old.length u) P.old)(l:∀b,w.heap.size<=b->b<w1.heap.size->S b)(C:Tk)(D:C={x with aJ:=P}):oh w1 S C {s with fr:=⟨A1,n1⟩,ol:=⟨B1,u⟩}:=by subst D;exact{h with fr:=⟨a.xS.2,λf c e=>by subst c;exact l _ (bk a rfl).1 (bk a rfl).2⟩,ol:=⟨d.xS.2,λf c e=>by subst c;exact l _ (bk d rfl).1 (bk d rfl).2⟩,lr:=a.cap.2,lo:=d.cap.2}
theorem RN.pls(H:RN w X p c A n k t m q r s o)(a:PB (bX c) N r.k.aJ)(d:N<=100000):OH w r.k.aJ s.fr.A s.fr.c s.ol.A s.ol.c:=⟨H.tk.lr,H.tk.lo,H.tk.fr.1,H.tk.ol.1,by have:=a.len;have:=a.sp;omega,by have:=a.len;have:=a.sp;omega⟩
theorem RX.iD(h:ag w p 179 arr)(m:Mm)(lo hi:Nat)(a:Obj):RX w p m lo hi (w.alloc a).drew:=((RX.start h m lo hi).alloc a)
def wF(w:World)(P:Pl)(b:Bool)(d f:Value)(a:World):Prop :=∃g A1 n1 B1 c,d=.pointer (some ⟨g,0,none⟩)/\f=b/\ag a g 73 #[P.own.ix,P.own.tag,.slice A1 P.free.length n1,.slice B1 P.old.length c,P.spent]/\w.heap.size<=g/\Below w w a/\aH a w 219 2 fL (.slice A1 P.free.length n1) P.free/\aH a w 222 3 kt (.slice B1 P.old.length c) P.old
theorem wF.last{P:Pl}{b:Bool}{a:Nat}(d:Below w w w1)(f:aH w1 w 219 2 fL (.slice A1 P.free.length n1) P.free)(h:aH w1 w 222 3 kt (.slice B1 P.old.length a) P.old) :
 wF w P b (.pointer w1.heap.size) b (w1.alloc (rU P.own.ix P.own.tag A1 P.free.length n1 B1 P.old.length a P.spent)) :=
 ⟨_,A1,n1,B1,a,rfl,rfl,ag.new _ _ _,d.size,aj d _,f.alloc _,h.alloc _⟩
theorem wF.mid{P:Pl}{b:Bool}{d:Nat}{f h j l u:Value}(a:ag w1 w 73 #[f,h,j,l,u])(B:Below w w w1)(y:aH w1 w 219 2 fL (.slice A1 P.free.length n1) P.free)(z:aH w1 w 222 3 kt (.slice B1 P.old.length d) P.old) :
 wF w P b (.pointer w.heap.size) b (iz w1 w P.own.ix P.own.tag (.slice A1 P.free.length n1) (.slice B1 P.old.length d) P.spent) :=
 ⟨_,A1,n1,B1,d,rfl,rfl,iK a _ _ _ _ _,aR _,fx B (aR _) _ _ _ _ _,dV y a af _ _ _ _ _,dV z a af _ _ _ _ _⟩
theorem Bk(H:RN w X p c A n k t m q r s o)(j:PB (bX c) N r.k.aJ)(Z:N<=100000):Calls prog 138 #[.pointer p] w (cW X p c A n k t m q (Rn.take c r) w):=by
 have z:=ae (λC (K:Below w w C)=>OK C r.k.aJ s.fr.A s.fr.c s.ol.A s.ol.c c.tags ((H.more K).pls j Z) j.Ti (λx K=>(j.free x K).2.2.2.1) j.sp (by have:=j.len;have:=j.sp;omega));unfold mo at z;obtain⟨L,E⟩:=aw (vH r.k.aJ c.tags);rw[<-E]at z;obtain⟨d,l⟩:=av E H;have W:=H.lt;clear H E;obtain⟨O,q8,kf,iM⟩:=l.FH 0 0;unfold bI at O;go_enter func138,ntmps138;go_wp2;go_cut[2,3] (λs2 s3 C=>wF w L.1 L.2 s2 s3 C);case first =>
  go_region_held3(RX w p m 0 0) (with_reducible(repeat(first|assumption|exact RX.start l.Y.blk _ _ _|exact RX.iD l.Y.blk _ _ _ _|refine RX.alloc ?_ _|refine RX.b9 ?_ (aR _) _ _))) (((with_reducible refine(z.Y _ (by first|exact(ai w).drew|exact(aj (ai w) _).drew)).mono ?_);rintro e w1 ⟨v,rfl,A1,n1,B1,m1,rfl,P,Q,f⟩;unfold mo;have gF:=RX.below (by assumption) f;have u:=ah (by first|exact(ai w).drew|exact(aj (ai w) _).drew:Below w w _) f;(try(have B:=(ag.dr (ag.new w _ _)).ah f;have aq:=λi=>ag.cell B i;have a6:=λi=>ag.free B i;have a7:=B.lt))));all_goals
   go_wp2;go_meet;first
    |with_reducible exact wF.last u (P.bL aA) (Q.bL aA)
    |(change wF _ _ _ _ _ (iz w1 w _ _ _ _ _);with_reducible exact wF.mid B u (P.bL aA) (Q.bL aA))
 case rest =>
  obtain⟨g,A1,n1,B1,m1,rfl,rfl,G,hg,I,y,F⟩:=hcut;obtain⟨a,V⟩:=L;dsimp only at G y F ⊢;obtain⟨HB,HR⟩:=av I (l.more I);have rJ:Hid (oh wc (Im wc X p m) {r.k with aJ:=a} {s with fr:=⟨A1,n1⟩,ol:=⟨B1,m1⟩}):=wU.tk HR.tk y F (λb Y y=>Im.fresh l Y y) _ rfl;obtain⟨D,HRF,T⟩:=aS (λM (h:RN M X p c A n k t m q {r with k:={r.k with aJ:=a,pO:=false}} {s with fr:=⟨A1,n1⟩,ol:=⟨B1,m1⟩} o)=>yS h) (λM (h:RN M X p c A n k t m q {r with k:={r.k with aJ:=a}} {s with fr:=⟨A1,n1⟩,ol:=⟨B1,m1⟩} o)=>EG h) G;have bz:p<g:=aa;obtain⟨cI,-,eH⟩:=ag.aF T;obtain⟨U,bC,a8⟩:=ag.aF HR.blk;unfold bI at U;clear O q8 kf iM W G hg I y F z;rcases V with _|_
  .by_cases R:0<a.old.length
   .have J:(0:Int)<(a.old.length:Int):=aa;rcases S:r.k.pO with _|_
    .have hE:Rn.take c r={r with k:={r.k with aJ:=a,pO:=true,pc:=24}}:=by unfold Rn.take;rw[<-d.Y];dsimp only;rw[au af,ay ⟨R,S⟩]
     have HE:=ae hE;clear hE;go_wp2;go_end0;rw[HE.Y];refine cW.then (cP.ext HB p m) ?_;exact cW.leaf HR {s with fr:=⟨A1,n1⟩,ol:=⟨B1,m1⟩} o {rJ with} HR.op rfl
    .have hE:Rn.take c r=Rn.refuse {r with k:={r.k with aJ:=a}}:=by unfold Rn.take;rw[<-d.Y];dsimp only;rw[au af,au (λh=>by rw[S]at h;cases h.2)]
     exact abG
   .have J:¬(0:Int)<(a.old.length:Int):=aa;have hE:Rn.take c r=Rn.refuse {r with k:={r.k with aJ:=a}}:=by unfold Rn.take;rw[<-d.Y];dsimp only;rw[au af,au (λh=>R h.1)]
    exact abG
  .have hE:Rn.take c r=Rn.again c {r with k:={r.k with aJ:=a,pO:=false}}:=by unfold Rn.take;rw[<-d.Y];dsimp only;rw[ay rfl]
   have HE:=ae hE;clear hE;go_wp2_with fail;go_fit (D _ ?_)
   .exact RN.leaf HR {s with fr:=⟨A1,n1⟩,ol:=⟨B1,m1⟩} o {rJ with} HR.op rfl
   .rintro e w3 ⟨rfl,(HX:Hid _)⟩;go_wp2;go_end0;rw[HE.Y];refine cW.then (cP.ext HB p m) (cW.after ⟨rfl,HX⟩ ?_);exact WW
theorem RX.rd{lo:Nat}(h:RX w p m lo hi wx)(H:RN w X p c A n k t m q r s o):bD wx .i64 A c.start:=(H.cf.same λb a=>h.eq b a.1 a.2.1 a.2.2.1).1
theorem mz(H:RN w X p c A n k t m q r s o)(j:PB (bX c) N r.k.aJ)(h:N<=100000):Calls prog 164 #[.pointer p] w (cW X p c A n k t m q (Rn.eY c r) w):=by
 have i:=ae (Bk H j h);obtain⟨g,l,u⟩:=ag.aF H.blk;unfold bI at g;have b:=ae H;clear H;rcases d:r.k.pO with _|_
 .have a:Rn.eY c r=r.pc 28:=by unfold Rn.eY;rw[au (by rw[d];decide)]
  rw[a];clear a;go_enter func164,ntmps164;go_wp2;go_end0;exact cW.leaf b s o {b.tk with} b.op rfl
 .have a:Rn.eY c r=Rn.take c r:=by unfold Rn.eY;rw[ay d]
  rw[a];clear a;go_enter func164,ntmps164;go_wp2_with fail;refine i.mono ?_;rintro e x ⟨rfl,(f:Hid _)⟩;go_wp2;exact bodyPost_ret (v:=.tuple #[]) (by simp[results,results164,go_sem]) rfl ⟨rfl,f⟩
theorem sR(H:RN w X p c A n k t m q r s o):Calls prog 161 #[.pointer p] w (cW X p c A n k t m q (Rn.owned c r) w):=by
 obtain⟨d,HD,Qr⟩:=aS (ra H) (H.more (ai w).drew) (rE w.drew r.k.aJ s.fr.A s.fr.c s.ol.A s.ol.c c.aP);unfold mo at Qr;obtain⟨aC,bC,bb⟩:=ag.aF H.blk;unfold bI at aC;have f:=ae H;clear H;rcases a:r.k.waits with _|_
 .rcases hnb:Mo.needs r.k.aJ c.aP with _|_
  .have hE:Rn.owned c r=r.pc 28:=by unfold Rn.owned;rw[au (by rw[a];decide),au (by rw[hnb];decide)]
   exact abH
  .have hE:Rn.owned c r=r.pc 24:=by unfold Rn.owned;rw[au (by rw[a];decide),ay hnb]
   exact abH
 .have hE:Rn.owned c r=r.finish:=by unfold Rn.owned;rw[ay a]
  rw[hE];clear hE;go_enter func161,ntmps161;go_wp2_with fail;refine d.mono ?_;rintro e g ⟨rfl,(b:Hid _)⟩;go_wp2;go_end0;exact⟨rfl,b⟩
theorem jX(H:RN w X p c A n k t m q r s o)(d a:Int)(B:0<=d)(C:d<=70000):Calls prog 142 #[.pointer p,.agg #[d,a]] w λe w'=>e=.returned (bV c d)/\Below w w w':=by
 have h:Hid (Below w w (w.alloc (.cells #[d,a] 68)).drew):=(aj (ai w) _).drew;obtain⟨u,i⟩:=av (qJ (w.alloc (.cells #[d,a] 68)).drew H.cs.ee H.cs.n ((H.more h).cf.1) (k:=k) d B C) (H.more (aj (ai w) (.cells #[d,a] 68)));have f:Hid (ag (w.alloc (.cells #[d,a] 68)) w.heap.size 68 #[d,a]):=ag.new _ _ _;clear H;go_enter func142,ntmps142;go_wp2_with fail;generalize w.heap.size=g at f ⊢;generalize w.alloc (.cells #[d,a] 68)=l at *;obtain⟨j,-,v⟩:=ag.aF i.blk;obtain⟨y,-,z⟩:=ag.aF f;unfold bI at j;go_still_tail 6,(by kernel_rfl)
 change wpList _ _ _ _ _ l.drew;clear j v y z i f;generalize l.drew=E at *;go_wp2_with fail;refine u.mono ?_;rintro e D ⟨rfl,b⟩;have x:=ae (ah h b);clear b;go_wp2;go_ret;exact⟨rfl,x⟩
theorem Bl(H:RN w X p c A n k t m q r s o):Calls prog 144 #[.pointer p] w λe w'=>e=.returned (bA c)/\Below w w w':=by
 have u:=size_le H.cs.ee;have I:=H.cs.th;have l:=(Mo.aO H.cs.ee).1.1;obtain⟨d,j⟩:∃v,v=bV c 1:=⟨_,rfl⟩
 obtain⟨b,a⟩:∃v,v=bV c 0:=⟨_,rfl⟩
 obtain⟨y,g⟩:=av (λf (h:Ext w f)=>qJ f H.cs.ee H.cs.n ((H.more h.Y).cf.1) (k:=k) 1 (by decide) (by decide)) (λf (h:Ext w f)=>qJ f H.cs.ee H.cs.n ((H.more h.Y).cf.1) (k:=k) 0 (by decide) (by decide));rw[<-j]at y;rw[<-a]at g;have x:d-b-1=bA c:=by rw[j,a];unfold bV;omega
 have D:0<=b/\b<=100000:=by rw[a];unfold bV;omega
 have E:0<=d/\d<=100000:=by rw[j];unfold bV;omega
 have L:IntKind.i64.wrap (d-b)=d-b:=bH _ (by omega);have M:IntKind.i64.wrap (d-b-1)=d-b-1:=bH _ (by omega);obtain⟨z,B⟩:=av x H;have C:=λf (h:Ext w f) i=>ag.cell (B.Y.more h.Y).blk i;unfold bI at C;clear H j a x u I l D E;go_enter func144,ntmps144;go_wp2;go_region_held3(Ext w) (with_reducible(repeat(first|assumption|exact Ext.start _|exact Ext.iD _ _|refine Ext.alloc ?_ _))) (first
  |((with_reducible go_fit (y.Y _ (by assumption)));rintro e N ⟨rfl,F⟩;have J:=Ext.to (by assumption) F)
  |((with_reducible go_fit (g.Y _ (by assumption)));rintro e O ⟨rfl,G⟩;have K:=Ext.to (by assumption) G))
 all_goals
  go_wp2;go_ret;refine⟨by rw[<-z.Y];rfl,?_⟩;first
   |with_reducible exact J.Y
   |with_reducible exact K.Y
theorem vz(H:RN w X p c A n k t m q r s o)(l:List Int)(D:Option Addr)(h I:Nat)(K:h=l.length)(R:(l.length:Int)=bA c)(Q:fV l)(O:bD w .u64 D l)(i:Int)(L:0<=i)(M:i<c.threads) :
 Calls prog 145 #[.pointer p,.slice D h I,i] w λe w'=>e=.returned (.agg #[.int .i64 (iT c l i).seq,.int .i64 (iT c l i).cs,.int .i64 (iT c l i).code,.int .i64 (iT c l i).value])/\Below w w w':=by
 obtain⟨j,rfl⟩:=Int.eq_ofNat_of_zero_le L
 have d:Hid (Below w w (w.alloc ke)):=aj (ai w) _
 have z:Hid (ag (w.alloc ke) w.heap.size 64 #[oZ,oZ,oZ,oZ]):=ag.new _ _ _
 have C:=ae (vw _ H.cs.ee H.cs.n ((H.more d).cf.1) (k:=k) l D h I K R (O.below d) j M)
 have y:=tO c Q j
 have f:=ae (λwx=>lJ wx (l7 c l j) y.1 y.2)
 rw[show rS (l7 c l j)=(iT c l j).seq from rfl,show rC (l7 c l j)=(iT c l j).cs from rfl,show rO (l7 c l j)=(iT c l j).code from rfl,show rV (l7 c l j)=(iT c l j).value from rfl]at f
 generalize iT c l j=x at f ⊢
 have E:=ae (H.more d)
 clear y H K R Q O L M
 go_enter func145,ntmps145
 go_upto_region 1 with fail
 obtain⟨g,N⟩:=aw w.heap.size
 have T:w.heap.size<=g:=aa
 rw[<-N]at z ⊢
 generalize(w.alloc ke)=w0 at *
 obtain⟨F,-,V⟩:=ag.aF E.blk
 unfold bI at F
 clear N
 go_wp2_with fail
 refine C.mono ?_
 rintro e w1 ⟨rfl,a⟩
 obtain⟨G,J⟩:=av (ah d a) (z.ah a)
 clear a F V E z C d
 go_wp2_with fail
 go_fit (f _)
 rintro e S ⟨rfl,b⟩
 obtain⟨U,P⟩:=av (ah G b) (J.ah b)
 clear b J G f
 obtain⟨W,u,Y⟩:=ag.aF P
 go_wp2_with fail
 have iB:=aY (vs:=[x.seq,x.cs,x.code,x.value]) P rfl
 have kN:=az (B:=w.heap.size) (g:=g) T [x.seq,x.cs,x.code,x.value] _ 0 U
 change bodyPost _ _ _ _ _ (ax S g 0 [x.seq,x.cs,x.code,x.value])
 clear W u Y
 generalize ax S g 0 [x.seq,x.cs,x.code,x.value]=wz at *
 have Z:=λi=>ag.cell iB i
 refine bodyPost_ret (v:=.agg #[x.seq,x.cs,x.code,x.value]) ?_ rfl ⟨rfl,kN⟩
 simp[results,results145,go_sem,Z]
theorem rP(H:RN w X p c A n k t m q r s o)(x:Int)(B:uP x):Calls prog 168 #[.pointer p,.int .u64 x] w λe w'=>e=.returned (nM r.k x)/\Below w w w':=by
 have f:=ae (lJ w x B.1 B.2);rw[show rS x=(cV x).seq from rfl,show rC x=(cV x).cs from rfl,show rO x=(cV x).code from rfl,show rV x=(cV x).value from rfl]at f;have F:=ae (λN=>AE N (cV x).seq (cV x).cs (cV x).code (cV x).value);obtain⟨y,C⟩:=aw (cV x);have j:Hid (nM r.k x=(y.seq==r.k.seq && Oc y.code)):=by unfold Hid nM;rw[C];rfl
 rw[<-C]at f F;have G:=ae H;clear H B C;by_cases v:y.seq=r.k.seq
 .have z:(y.seq==r.k.seq)=true:=by rw[v];exact beq_self_eq_true _
  have D:Hid (nM r.k x=Oc y.code):=by unfold Hid;rw[j.Y,z];rfl
  clear v j;go_enter func168,ntmps168;go_wp2_with fail;refine f.mono ?_;rintro e d ⟨rfl,a⟩;obtain⟨l,i⟩:=av (G.more (aj a (qh y.seq y.cs y.code y.value))) (aj a (qh y.seq y.cs y.code y.value));have b:Hid (ag (d.alloc (qh y.seq y.cs y.code y.value)) d.heap.size 64 #[y.seq,y.cs,y.code,y.value]):=ag.new _ _ _;clear a f;go_upto_region 2 with fail
  generalize d.heap.size=g at b ⊢;generalize(d.alloc (qh y.seq y.cs y.code y.value))=E at *;obtain⟨u,-,I⟩:=ag.aF l.blk;obtain⟨J,-,K⟩:=ag.aF b;unfold bI at u;go_still_tail 10,(by kernel_rfl)
  change wpList _ _ _ _ _ E.drew;have L:=ae i.drew;clear u I J K l b i;generalize E.drew=P at *;go_wp2_with fail;go_fit (F _);rintro e O ⟨rfl,h⟩;have M:=ae (ah L h);clear h;go_wp2;go_ret;exact⟨by rw[D.Y];rfl,M⟩
 .have z:(y.seq==r.k.seq)=false:=by rw[dp];exact v
  have D:Hid (nM r.k x=false):=by unfold Hid;rw[j.Y,z];rfl
  clear v j;go_enter func168,ntmps168;go_wp2_with fail;refine f.mono ?_;rintro e d ⟨rfl,a⟩;obtain⟨l,i⟩:=av (G.more (aj a (qh y.seq y.cs y.code y.value))) (aj a (qh y.seq y.cs y.code y.value));have b:Hid (ag (d.alloc (qh y.seq y.cs y.code y.value)) d.heap.size 64 #[y.seq,y.cs,y.code,y.value]):=ag.new _ _ _;clear a f;go_upto_region 2 with fail
  generalize d.heap.size=g at b ⊢;generalize(d.alloc (qh y.seq y.cs y.code y.value))=E at *;obtain⟨u,-,I⟩:=ag.aF l.blk;obtain⟨J,-,K⟩:=ag.aF b;unfold bI at u;go_quiet(fail);go_wp2;go_ret;exact⟨by rw[D.Y];rfl,bZ i _⟩
theorem dZ(d:aV c=true){i:Int}(f:0<=i)(g:i<c.threads):(0<=pg c i/\pg c i<bG c)/\(0<=jZ c i/\jZ c i<bG c)/\(0<=qp c i/\qp c i<bG c)/\(0<=ea c i/\ea c i<bG c)/\∀j:Int,0<=j->j<5->0<=kn c i+j/\kn c i+j<bG c:=by
 have b:=oI d;have e:=lL d (i:=bX c) aa aa;have a:bG c=bV c (bX c):=by unfold bG;rw[au (by rw[d];decide)]
 rw[a];unfold bV pg jZ qp ea kn;refine⟨aa,aa,aa,aa,λj _ _=>by omega⟩
theorem lO(a:aV c=true){i:Int}(f:0<=i)(g:i<bX c):(0<=bV c i/\bV c i<bG c)/\∀j:Int,0<=j->j<bA c->0<=bV c i+1+j/\bV c i+1+j<bG c:=by
 have e:=oI a;have h:=lL a (i:=i) aa aa;have k:=size_le a;have n:=(Mo.aO a).1.1;have b:bG c=bV c (bX c):=by unfold bG;rw[au (by rw[a];decide)]
 have d:bV c (bX c)=bV c i+(bX c-i)*(1+bA c):=by unfold bV;rw[Int.sub_mul];omega
 have l:1*(1+bA c)<=(bX c-i)*(1+bA c):=Int.mul_le_mul_of_nonneg_right aa aa;rw[b,d];have m:0<=bV c i:=by unfold bV;omega
 refine⟨aa,λj _ _=>by omega⟩
theorem kD{x:Int}(a:0<=x)(d:x<=4611686018427387904):IntKind.i64.wrap x=x:=bH _ aa
theorem UL(H:RN w X p c A n k t m q r s o)(d:RB c N r)(j:N<=100000)(g:q<=900000)(f:r.k.pc=1):Calls prog 103 #[.pointer p] w (cW X p c A n k t m (q+1) (Rn.enter c t r) w):=by
 have HL:=ae (di H g 1 af);have a:=(d.L.at_ 1).1;have b:=d.g.1;have e:Rn.enter c t r={r with k:={r.k with js:=aG r.L 1,pc:=2}}:=by unfold Rn.enter;rw[ay f]
 rw[e];generalize aG r.L 1=x at HL a b ⊢;have h:IntKind.i64.wrap x=x:=kD a aa;obtain⟨aC,bC,bb⟩:=ag.aF H.blk;unfold bI at aC;have HH:=ae H;clear H;rw[f]at aC;clear e f d;go_enter func103,ntmps103;exact abI
theorem UM(H:RN w X p c A n k t m q r s o)(f:RB c N r)(g:q<=900000)(d:r.k.pc=3):Calls prog 103 #[.pointer p] w (cW X p c A n k t m (q+1) (Rn.enter c t r) w):=by
 have HL:=ae (di H g 0 af);have a:=f.L.at_ 0;have b:Rn.enter c t r={r with k:={r.k with base:=(jE (aG r.L 0)).1,pc:=4}}:=by unfold Rn.enter;rw[au aa,au aa,ay d]
 rw[b];generalize aG r.L 0=x at HL a ⊢;have jC:=ae (λe=>AB e x a.1 a.2);obtain⟨aC,bC,bb⟩:=ag.aF H.blk;unfold bI at aC;have HH:=ae H;clear H;rw[d]at aC;clear b d f a;go_enter func103,ntmps103;exact abJ
theorem UN(H:RN w X p c A n k t m q r s o)(d:RB c N r)(G:N<=100000)(J:q<=900000)(j:r.k.pc=2):Calls prog 103 #[.pointer p] w (cW X p c A n k t m (q+1) (Rn.enter c t r) w):=by
 have v:=d.k.ep;have u:=(dZ H.cs.ee H.cs.t0 H.cs.t1).2.2.1;have x:Rn.enter c t r=Rn.take c (r.store (qp c t) (jt r.k.js)):=by unfold Rn.enter;rw[au (by omega),ay j]
 rw[x];have y:=ae (λwx=>tV wx H.cs.ee A k n t H.cs.t0 (by have:=H.cs.t1;have:=H.cs.th;omega));have D:Hid (∀wx,Calls prog 137 #[r.k.js] wx λe Q=>e=.returned (.int .u64 (jt r.k.js))/\wx=Q):=λwx=>by exact WZ
 obtain⟨f,P,HH⟩:=aS (λwx (h:RN wx X p c A n k t m q r s o)=>fz h J (qp c t) (jt r.k.js) u.1 u.2) (λwx M (h:RN wx X p c A n k t M (q+1) (r.store (qp c t) (jt r.k.js)) s o)=>Bk h d.k.aJ G) H;have T:=H.more (ai w).drew;have F:=ae (λwx R (h:RN wx X p c A n k t m q r s o) (I:Below wx wx R)=>h.more I);have S:=H.lt;have E:=HH.Y.cx;unfold bI at E;have g:=λi=>ag.cell HH.Y.blk i;unfold bI at g;rw[j]at g;clear x j d H u v;go_enter func103,ntmps103;go_wp2_with fail;clear g;go_region_held3(RX w p m 0 0) (exact gw) (first
  |((with_reducible go_fit (y.Y _));rintro e W ⟨rfl,a⟩;have L:=RX.below (by assumption) a;have O:=F.Y _ _ (by assumption) a)
  |((with_reducible go_fit (D.Y _));rintro e Y ⟨rfl,rfl⟩)
  |((with_reducible go_fit (f.Y _ (by assumption)));rintro e Z ⟨rfl,U,l,b⟩;have K:=RX.acc (by assumption) HH.Y.blk b (l.kept b rfl)))
 all_goals
  obtain⟨B,z⟩:=av l (((cP.ext (ai w).drew p m).trans (cP.ext a p m)).trans b);clear L O K l b a;go_wp2_with fail;go_fit (P.Y _ _ B.Y);rintro e V ⟨rfl,(C:Hid _)⟩;go_wp2;go_end0;exact cW.then z.Y ⟨rfl,C.Y⟩
theorem UO(H:RN w X p c A n k t m q r s o)(z:q<=900000)(f:r.k.pc=4):Calls prog 103 #[.pointer p] w (cW X p c A n k t m (q+1) (Rn.enter c t r) w):=by
 have l:=(dZ H.cs.ee H.cs.t0 H.cs.t1).2.1;have v:Rn.enter c t r=(r.store (jZ c t) (cm r.k.base)).pc 5:=by unfold Rn.enter;rw[au (by omega),au (by omega),au (by omega),ay f]
 rw[v];have x:=ae (λa=>qI a H.cs.ee A k n t H.cs.t0 (by have:=H.cs.t1;have:=H.cs.th;omega));have y:Hid (∀a,Calls prog 97 #[.agg #[r.k.base.ix,r.k.base.tag]] a λe B=>e=.returned (.int .u64 (cm r.k.base))/\Below a a B):=λa=>ia a _ _;obtain⟨d,HH⟩:=av (λa (h:RN a X p c A n k t m q r s o)=>fz h z (jZ c t) (cm r.k.base) l.1 l.2) H;obtain⟨C,D,u,b,bb⟩:=H.cT;have aT:=HH.Y.cx;unfold bI at aT;have aC:=λi=>ag.cell HH.Y.blk i;unfold bI at aC;rw[f]at aC;clear v f H l;go_enter func103,ntmps103;go_wp2_with fail;clear aC;go_region_held3(RX w p m 0 0) (exact gw) (first
  |((with_reducible go_fit (x.Y _));rintro e L ⟨rfl,g⟩;have G:=RX.below (by assumption) g;have J:=u.Y _ _ (by assumption) g;have K:=b.Y _ _ (by assumption) g)
  |((with_reducible go_fit (y.Y _));rintro e M ⟨rfl,j⟩;have I:=RX.below (by assumption) j;have P:=u.Y _ _ (by assumption) j;have O:=b.Y _ _ (by assumption) j)
  |((with_reducible go_fit (d.Y _ (by assumption)));rintro e N ⟨rfl,F,hC,fC⟩;have E:=RX.acc (by assumption) HH.Y.blk fC (hC.kept fC rfl);have eJ:=cP.trans (by assumption) fC))
 exact Zy
theorem UP(H:RN w X p c A n k t m q r s o)(E:RB c N r)(V:N<=100000)(I:q<=900000)(f:r.k.pc=5):Calls prog 103 #[.pointer p] w (cW X p c A n k t m (q+1) (Rn.enter c t r) w):=by
 have K:=E.k.round;have C:Rn.enter c t r=if aG r.L 0≠cm r.k.base then Rn.fail c r else r.pc 6:=by unfold Rn.enter;rw[au (by omega),au (by omega),au (by omega),au (by omega),ay f]
 rw[C];obtain⟨x,g⟩:∃x,x=aG r.L 0:=⟨_,rfl⟩
 obtain⟨y,j⟩:∃y,y=cm r.k.base:=⟨_,rfl⟩
 rw[<-g, <-j];have z:Hid (∀a,Calls prog 97 #[.agg #[r.k.base.ix,r.k.base.tag]] a λe P=>e=.returned (.int .u64 y)/\Below a a P):=λa=>by
  rw[j]
  exact ia a _ _
 have l:=ae (λa (h:RN a X p c A n k t m q r s o)=>di h I 0 (by decide));rw[<-g]at l;have HH:=ae H;have U:=H.more (ai w).drew;have B:=ae (λa S (h:RN a X p c A n k t m q r s o) (G:Below a a S)=>h.more G);have bb:=H.lt;have aT:=HH.Y.cx;unfold bI at aT;have aC:=λi=>ag.cell HH.Y.blk i;unfold bI at aC;rw[f]at aC;clear C f H g j;by_cases d:x=y
 .have O:(x !=y)=false:=by rw[d];exact bne_self_eq_false _
  rw[au (λh=>h d)];clear d;go_enter func103,ntmps103;go_wp2_with fail;clear aC;go_region_held3(RX w p m 0 0) (exact gw) (first
   |((with_reducible go_fit (z.Y _));rintro e Q ⟨rfl,b⟩;have M:=RX.below (by assumption) b;(try have T:=B.Y _ _ (by assumption) b))
   |((with_reducible go_fit (l.Y _ (by assumption)));rintro e R ⟨rfl,u,hC,fC⟩;have J:=RX.acc (by assumption) HH.Y.blk fC (hC.kept fC rfl)))
  all_goals
   first
    |(have HF:=ae (((cP.ext (ai w).drew p m).trans (cP.ext b p m)).trans fC);have HR:=ae hC)
    |(have HF:=ae (((cP.ext (ai w).drew p m).trans fC).trans (cP.ext b p u));have HR:=ae (hC.more b))
   exact W6
 .have O:(x !=y)=true:=by rw[bne_iff_ne];exact d
  rw[ay d];clear d;have D:=ae (λa L (h:RN a X p c A n k t L (q+1) r s o)=>vy h K.1 (by omega));go_enter func103,ntmps103;go_wp2_with fail;clear aC;go_region_held3(RX w p m 0 0) (exact gw) (first
   |((with_reducible go_fit (z.Y _));rintro e Q ⟨rfl,b⟩;have M:=RX.below (by assumption) b;(try have T:=B.Y _ _ (by assumption) b))
   |((with_reducible go_fit (l.Y _ (by assumption)));rintro e R ⟨rfl,u,hC,fC⟩;have J:=RX.acc (by assumption) HH.Y.blk fC (hC.kept fC rfl)))
  all_goals
   first
    |(have HF:=ae (((cP.ext (ai w).drew p m).trans (cP.ext b p m)).trans fC);have HR:=ae hC)
    |(have HF:=ae (((cP.ext (ai w).drew p m).trans fC).trans (cP.ext b p u));have HR:=ae (hC.more b))
   clear hC fC aT bb;go_wp2_with fail;go_fit (D.Y _ _ HR.Y);rintro e W ⟨rfl,(F:Hid _)⟩;go_wp2;exact bodyPost_ret (v:=.tuple #[]) (by simp[results,results103,go_sem]) rfl (cW.then HF.Y ⟨rfl,F.Y⟩)
theorem Ic(H:RN w X p c A n k t m q r s o)(d:RB c N r)(f:N<=100000)(a:q<=900000)(g:1<=r.k.pc)(j:r.k.pc<=5):Calls prog 103 #[.pointer p] w (cW X p c A n k t m (q+1) (Rn.enter c t r) w):=by
 rcases(by omega:r.k.pc=1\/r.k.pc=2\/r.k.pc=3\/r.k.pc=4\/r.k.pc=5)with h|h|h|h|h
 .exact UL H d f a h
 .exact UN H d f a h
 .exact UM H d a h
 .exact UO H a h
 .exact UP H d f a h
end
def nK(p:Pm)(s:Sl):List Value:=[p.on,p.shut,p.over,p.fG,.slice s.A p.outs.length s.c,p.at_,p.value]
def nS(q:Rq)(s:Sl):List Value:=[q.kind,q.arg,q.value,q.dflt,.slice s.A q.cases.length s.c]
def uq(w a:World)(q:Rq)(s:Sl):Prop:=eo a (λb=>w.heap.size<=b/\b<a.heap.size) bj s.A q.cases/\q.cases.length<=s.c
section
variable(w:World)
theorem Ie(h:Int):Calls prog 116 #[h] w λe w'=>e=.returned (RT h)/\w=w':=by have a:=ae (xO w h);go_enter func116,ntmps116;go_wp2_with fail;refine a.mono ?_;exact S4
theorem uq.none_(q:Rq)(h:q.cases=[])(s:Sl):uq w w' q s:=by unfold uq;rw[h];exact⟨eo.nil _ _ _ _,aZ _⟩
theorem uq.fin{w a d:World}{q:Rq}{z:Sl}(f:Below w w a)(c:uq a d q z){g:Nat}(j:g<a.heap.size)(vs:List Value):uq w (ax d g 0 vs) q z:=⟨(c.1.same (λb h=>aM aa vs 0)).mono (λb h=>⟨bm f.size h.1,by rw[bO];exact h.2⟩),c.2⟩
structure GX (w:World) (g:Nat) (wx:World):Prop where
 lS:Below 0 w wx
 eq:∀b,b<w.heap.size->b≠g->wx.heap[b]?=w.heap[b]?
 pk:∃t a a0,ag w g t a0/\ag wx g t a/\a.size=a0.size
section
variable{w:World}{g:Nat}
theorem GX.start{t:TypeId}{a:Array Value}(h:ag w g t a):GX w g w.drew:=⟨(Below.refl 0 w).trans ((ai w).drew.mono (aZ _)),λ_ _ _=>rfl,t,a,a,h,h,rfl⟩
theorem GX.below(h:GX w g wx)(l:Below wx wx wy):GX w g wy:=by obtain⟨t,a,a0,d,e,f⟩:=h.pk;exact⟨h.lS.trans (l.mono (aZ _)),λb c i=>(l.block b (bW c h.lS.size)).trans (h.eq b c i),t,a,a0,d,e.ah l,f⟩
theorem GX.alloc(h:GX w g wx)(o:Obj):GX w g (wx.alloc o):=h.below (aj (ai _) o)
theorem GX.set(h:GX w g wx)(i:Nat)(u:Value):GX w g (wx.setCell ⟨g,i,none⟩ u):=by obtain⟨t,a,a0,d,e,f⟩:=h.pk;exact⟨h.lS.setCell (p:=⟨g,i,none⟩) (aZ _) u,λb j c=>(dE _ _ _ _ c).trans (h.eq b j c),t,_,a0,d,e.bp i u,by rw[Array.size_setIfInBounds];exact f⟩
theorem GX.blk(h:GX w g wx){t:TypeId}{cs:Array Value}(d:ag w b t cs)(a:b≠g):ag wx b t cs:=(h.eq b d.lt a).trans d
theorem GX.own(h:GX w g wx){t:TypeId}{cs:Array Value}(f:ag w g t cs):∃a:Array Value,ag wx g t a/\a.size=cs.size:=by
 obtain⟨i,a,a0,b,d,e⟩:=h.pk;have c:i=t/\a0=cs:=by unfold ag at b f;rw[b]at f;injection f with f;injection f with e1 e2;exact⟨e2,e1⟩
 exact⟨a,c.1▸d,by rw[e,c.2]⟩
theorem GX.some_(h:GX w g wx){t:TypeId}{cs:Array Value}(c:ag w g t cs)(f:i<cs.size):wx.cell? ⟨g,i,none⟩=some (VO wx g i):=by obtain⟨a,b,d⟩:=h.own c;unfold VO;rw[ag.cell b i,Array.getElem?_eq_getElem aa];rfl
theorem GX.free(h:GX w g wx)(i:Nat):wx.frozen? ⟨g,i,none⟩=false:=by obtain⟨t,a,a0,c,b,d⟩:=h.pk;exact ag.free b i
theorem GX.seen(h:GX w g wx){a:World}(c:Below a a w)(d:a.heap.size<=g):Below a a wx:=(c.trans ⟨h.lS.os,h.lS.tape,h.lS.output,h.lS.size,λk b=>h.eq k (bW b c.size) aa⟩)
theorem GX.lt(h:GX w g wx):g<wx.heap.size:=by obtain⟨t,a,a0,c,b,d⟩:=h.pk;exact b.lt
end
def PmE(o:Option Rq)(e:Ending)(a:World):Prop:=∃s,e=.returned (.tuple #[.agg (nS (o.getD sr) s).toArray,o.isSome])/\uq w a (o.getD sr) s/\Below w w a
theorem EH(d h v:Int):Calls prog 76 #[d,h,v] w λe w'=>∃s,e=.returned (.agg (nS (tC d h v) s).toArray)/\uq w w' (tC d h v) s/\Below w w w':=by
 go_enter func76,ntmps76;go_wp2;refine bodyPost_ret (v:=?_) ?_ rfl ?_;rotate_left
 .simp[results,results76,go_sem];rfl
 .exact abK
theorem sS(p:Pm)(s:Sl)(y:bD w .i64 s.A p.outs)(hl:p.outs.length<=8)(hc:p.outs.length<=s.c):Calls prog 45 #[.agg (nK p s).toArray] w (PmE w (gy p)):=by
 obtain⟨I,E,J,r,outs,a,v⟩:=p;obtain⟨A,d⟩:=s;unfold nK;dsimp only at *;obtain⟨n,x⟩:=aw outs.length;rw[<-x]at hl hc ⊢;have HX:Hid (∀o,o=none->∀U,Below w w U->PmE w o (.returned (.tuple #[.agg #[oZ,oZ,oZ,false,oN],false])) U):=by rintro o rfl U t;exact⟨⟨none,0⟩,rfl,uq.none_ w _ rfl _,t⟩
 obtain⟨HN,HR⟩:=av x y;by_cases c:gy ⟨I,E,J,r,outs,a,v⟩=none
 .have HZ:=ae c;have R:I=false\/I=true/\(J=true\/J=false/\(a<0\/0<=a/\((n:Int)<a\/a<=n/\E=true/\¬a<n))):=by
   unfold gy at c;dsimp only at c;rw[<-x]at c;cases I
   .exact .inl rfl
   .cases J
    .refine .inr ⟨rfl,.inr ⟨rfl,?_⟩⟩;by_cases k:a<0
     .exact .inl k
     .by_cases H:(n:Int)<a
      .exact .inr ⟨aa,.inl H⟩
      .cases E
       .exfalso;rw[au (by simp;omega)]at c;simp only[Bool.false_eq_true,false_and,if_false]at c;split at c<;>cases c
       .refine .inr ⟨aa,.inr ⟨aa,rfl,λl=>?_⟩⟩;rw[au (by simp;omega),ay ⟨rfl,l⟩]at c;cases c
    .exact .inr ⟨rfl,.inl rfl⟩
  clear c x y;rcases R with rfl|⟨rfl,rfl|⟨rfl,k|⟨k,H|⟨H,rfl,l⟩⟩⟩⟩
  all_goals
   go_enter func45,ntmps45;go_wp2;refine bodyPost_ret (v:=.tuple #[.agg #[oZ,oZ,oZ,false,oN],false]) (by simp[results,results45,go_sem]) rfl ?_;exact HX.Y _ HZ _ (aj (aj (ai _) _) _)
 .have k:I=true/\J=false/\0<=a/\a<=n:=by
   unfold gy at c;dsimp only at c;rw[<-x]at c;split at c
   .exact absurd rfl c
   .rename_i h;cases I<;>cases J<;>simp at h ⊢<;>omega
  obtain⟨rfl,rfl,k,H⟩:=k
  have q:gy ⟨true,E,false,r,outs,a,v⟩=if E=true then(if a<n then some ⟨4,aG outs a,0,false,[]⟩else none)else if a=0 then some (tC 2 r 0)else some (tC 1 (aG outs (a-1)) v):=by
   unfold gy;dsimp only;rw[<-x,au (by simp;omega)];cases E
   .simp
   .by_cases l:a<n
    .simp[l]
    .simp[l]
  have V:∀X,Below w w ((w.alloc X).alloc XQ):=λX=>aj (aj (ai w) _) _
  have P:=ae V
  clear V
  rcases E with _|_
  .rw[au af]at q;by_cases Y:a=0
   .subst Y;rw[ay rfl]at q;rw[q];have B:=ae (λf=>EH f 2 r 0);unfold nS tC at B;dsimp only[iw]at B;have C:∀X,Hid (ag ((w.alloc X).alloc XQ) (w.heap.size+1) 38 ([oZ,oZ,oZ,false,oN]:VL).toArray):=λX=>ag.newAt _ _ _ aA;have C:=ae C;clear c q x y;go_enter func45,ntmps45;go_wp2_with fail;go_fit (B _);rintro e G ⟨⟨zA,zc⟩,rfl,K,t⟩;obtain⟨W,br,yT⟩:=aS ((C _).Y.ah t) (ah (P _) t) (P (.cells #[true,false,false,r,.slice A n d,oZ,v] 114));have HG:Hid (w.heap.size+1<((w.alloc (.cells #[true,false,false,r,.slice A n d,oZ,v] 114)).alloc XQ).heap.size):=by unfold Hid;simp
    have iU:=ae K;clear K t;obtain⟨bN,cj,cu⟩:=ag.aF W;go_wp2_with fail;clear bN cj cu;have S:=aY (vs:=[.int .i64 3,oZ,oZ,false,.slice zA 1 zc]) W rfl;have hO:=uq.fin yT iU (g:=w.heap.size+1) HG [.int .i64 3,oZ,oZ,false,.slice zA 1 zc];have kN:Below w w (ax G (w.heap.size+1) 0 [.int .i64 3,oZ,oZ,false,.slice zA 1 zc]):=az (bM _) _ _ _ br;change bodyPost _ _ _ _ _ (ax G (w.heap.size+1) 0 [.int .i64 3,oZ,oZ,false,.slice zA 1 zc]);generalize ax G (w.heap.size+1) 0 [.int .i64 3,oZ,oZ,false,.slice zA 1 zc]=wz at *;have fy:=λi=>ag.cell S i;exact abL
   .rw[au Y]at q;rw[q];obtain⟨j,rfl⟩:∃j:Nat,a=j+1:=⟨(a-1).toNat,aa⟩
    obtain⟨D,z,Q,m,_⟩:=y.at_ (i:=j) aa;subst Q;have M:∀f,Below w w f->f.cell? (D.add j)=some (.int .i64 z):=λf u=>by
     obtain⟨a',k,H⟩:=(y.below u) j z (by simp[m])
     injection k with k
     subst k
     exact H
    have L:aG outs ((j+1:Int)-1)=z:=by unfold aG;rw[au aa,show((j+1:Int)-1).toNat=j by omega,ew,m];rfl
    rw[L];have e1:IntKind.i64.wrap ((j+1:Int)-1)=j:=by rw[bH _ aa];omega
    have e2:IntKind.i64.wrap (j:Int)=j:=bH _ aa;have AW:j<n:=aa;have B:=ae (λf=>EH f 1 z v);unfold nS tC at B;dsimp only[iw]at B;clear c q x y L m;go_enter func45,ntmps45;go_wp2_with fail;have HP:Hid (ag ((w.alloc (.cells #[true,false,false,r,.slice (some D) n d,.int .i64 (j+1),v] 114)).alloc XQ) w 114 _):=(ag.new _ _ _).alloc _;have C:Hid (ag ((w.alloc (.cells (#[true,false,false,r,.slice (some D) n d,.int .i64 (j+1),v]:VA) 114)).alloc XQ) (w.heap.size+1) 38 ([oZ,oZ,oZ,false,oN]:VL).toArray):=ag.newAt _ _ _ aA;obtain⟨O,iF⟩:=av (P (.cells #[true,false,false,r,.slice (some D) n d,.int .i64 (j+1),v] 114)) M;clear M;generalize(w.alloc (.cells #[true,false,false,r,.slice (some D) n d,.int .i64 (j+1),v] 114)).alloc XQ=F at *;have aT:=λf (u:GX F (w.heap.size+1) f) i=>ag.cell (u.blk HP aa) i;have M:∀f,GX F (w.heap.size+1) f->f.cell? (D.add j)=some (.int .i64 z):=λf u=>by
     have k:=iF.Y w (ai w)
     have hs:Sm (·<w.heap.size) w f:=λb t=>(u.eq b (bW t O.size) aa).trans (O.block b t)
     rw[hs.cell (bc k)]
     exact k
    have q8:=λf (u:GX F (w.heap.size+1) f) i (hi:i<5)=>u.some_ C hi;have kf:=λf (u:GX F (w.heap.size+1) f) i=>u.free i;have iM:=λf (u:GX F (w.heap.size+1) f)=>u.lt;go_region_held3(GX F (w.heap.size+1)) (with_reducible(repeat(first|assumption|exact GX.start C.Y|refine GX.alloc ?_ _|refine GX.set ?_ _ _))) ((refine(B.Y _).mono ?_;rintro e G ⟨⟨zA,zc⟩,rfl,K,t⟩;have N:GX F (w.heap.size+1) _:=(by assumption);have T:=GX.below N t));all_goals
     obtain⟨aq,l,Z⟩:=T.own C;have S:=aY (vs:=[.int .i64 3,oZ,oZ,false,.slice zA 1 zc]) (cs:=aq.toList) l Z;have hO:=uq.fin (N.seen O (bM _)) K (g:=w.heap.size+1) N.lt [.int .i64 3,oZ,oZ,false,.slice zA 1 zc];have kN:Below w w (ax G (w.heap.size+1) 0 [.int .i64 3,oZ,oZ,false,.slice zA 1 zc]):=az (bM _) _ _ _ (T.seen O (bM _));clear N T aT M q8 kf iM K t l Z;change Exit.then _ (bodyPost _ _ _) _ _ (ax G (w.heap.size+1) 0 [.int .i64 3,oZ,oZ,false,.slice zA 1 zc]);generalize ax G (w.heap.size+1) 0 [.int .i64 3,oZ,oZ,false,.slice zA 1 zc]=wz at *;have fy:=λi=>ag.cell S i;go_wp2;exact abL
  .obtain⟨j,rfl⟩:∃j:Nat,a=j:=⟨a.toNat,aa⟩
   have l:(j:Int)<n:=by
    by_cases l:(j:Int)<n
    .exact l
    .rw[au l]at q;exact absurd q c
   rw[ay rfl,ay l]at q;rw[q];obtain⟨D,z,Q,m,M⟩:=(y.below (P (.cells #[true,true,false,r,.slice A n d,j,v] 114))).at_ (i:=j) aa;subst Q;have L:aG outs j=z:=by unfold aG;rw[au aa,ew,fR,m];rfl
   rw[L];clear c q x y L m;go_enter func45,ntmps45;go_wp2;refine bodyPost_ret (v:=.tuple #[.agg #[.int .i64 4,z,oZ,false,oN],true]) (by simp[results,results45,go_sem]) rfl ?_;exact⟨⟨none,0⟩,rfl,uq.none_ w _ rfl _,aj (aj (ai _) _) _⟩
end
section
variable(w:World){c:Mo.dG}{A:Option Addr}{n:Nat}
def Sm3(c:dG):Prop:=aV c=true/\c.threads<=4/\bG c<=4000
def SmE(c:dG)(w:World)(e:Ending)(a:World):Prop:=∃b,e=.returned (.bool b)/\(b=true->Sm3 c)/\Below w w a
theorem ME(j:n=c.start.length)(f:bD w .i64 A c.start):Calls prog 4 #[j8 c A n k] w (SmE c w):=by
 obtain⟨p,o⟩:=av (Mq (w.alloc (dB c A n k)) j (f.alloc _) (k:=k)) (λl (v:aV c=true) (a:Below w w l)=>Ex l v j (f.below a) (k:=k));clear j f;unfold j8 at *;go_enter func4,ntmps4;go_wp2_with fail;refine p.mono ?_;rintro e m ⟨r,rfl,f,a⟩;have b:=ae (ah (aj (ai w) (dB c A n k)) a);have q:Hid (ag m w 24 #[c.kind,c.threads,c.chans,c.cap,c.nodes,c.aP,c.aB,c.tags,c.bw,c.bn,.slice A n k]):=(ag.new w _ _).ah a;clear a;obtain⟨g,-,u⟩:=ag.aF q;by_cases d:r=0
 .have i:=ae (f d);subst d;clear f;by_cases x:c.threads<=4
  .have s:=ae x;go_wp2_with fail;go_fit (o m i.1 b);rintro e y ⟨rfl,a⟩;have t:=ae (ah b a);clear a g u;go_wp2;go_ret;exact⟨_,rfl,λh=>⟨i.1,s,by simpa using h⟩,t⟩
  .go_wp2;go_ret;exact⟨_,rfl,λh=>(by cases h),b⟩
 .have d1:(r==0)=false:=by simpa using d
  clear f;go_wp2;go_ret;exact⟨_,rfl,λh=>(by cases h),b⟩
theorem MF:Calls prog 16 #[] w λe w'=>∃A k,e=.returned (j8 xF A 2 k)/\bD w' .i64 A [0,1]/\Below w w w':=by
 go_enter func16,ntmps16;go_wp2;refine bodyPost_ret (v:=?_) ?_ rfl ?_;rotate_left
 .simp[results,results16,go_sem];rfl
 .refine⟨some ⟨w.heap.size+1,0,none⟩,2,rfl,?_,aj (aj (ai _) _) _⟩;exact Rd.Dm _ [oZ,.int .i64 1] 3 aA
end
end Go.Proofs.YtpfbfhfcbdbglaaGreat
