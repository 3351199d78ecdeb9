/- Walks and plain facts. No condition. -/
import Derived.Test.YtpfbfhfcbdbglaaGreatPt
import Derived.Test.YtpfbfhfcbdbglaaGreatPp
namespace Go.Proofs.YtpfbfhfcbdbglaaGreat
open Go.ChangeShapes Go.WideShapes Go.Deep Go.Joins Go.RowKit Go.Proofs.Tryz Mo
set_option maxHeartbeats 8000000
set_option maxRecDepth 100000
set_option linter.all false
variable {fuel base m:Nat}{w:World}{H:Type}{v:Value}{cs:List Value}{P:Program}{spare:Nat->Bool}{held:Bool}{t e:TypeId}{fs:Array Field}{x:DataW H × List MemPlace}{enc:TypeId × Value->H}{d:DataW H}
theorem uu(S:P.underlying t=some (.slice e))(K:P.underlying e=some (.struct fs))(C:oneCellFields P fs=true)(z:P.cellsOf e=fs.size)(h:DataW.trod enc P w base spare held fuel t cs=some x) :
 (cs=[.slice none 0 0]/\x=(.nil,[])) \/
 ∃(a:Addr) (b c m:Nat) (D:Nat->DataW H) (Pl:Nat->List MemPlace),cs=[.slice (some a) b c]/\base<=a.block/\b<=c/\c<=maxLen/\m=(if spare a.block then c else b) /\
  x=(.slice ((List.range b).map D) ((List.range (m-b)).map λj=>D (b+j)),MemPlace.row a (m*fs.size)++(List.range m).flatMap Pl) /\
  ∀i,i<m->∃(g:List (DataW H×List MemPlace)) (n:Nat),D i=.agg (g.map (·.1))/\Pl i=g.flatMap (·.2)/\g.length=fs.size /\
   ∀(j:Nat) (f:Field),fs[j]?=some f->∃(v:Value) (y:DataW H×List MemPlace),w.cell? (a.add (i*fs.size+j))=some v/\g[j]?=some y/\DataW.trod enc P w base spare held n f.type [v]=some y:=by
 rcases open_slice S h with I|⟨a,b,c,m,n,D,Pl,p,J,O,Q,F,B,M⟩
 .exact .inl I
 .refine .inr ⟨a,b,c,m,D,Pl,p,J,O,Q,F,by rw[z]at B;exact B,λi G=>?_⟩;obtain⟨d,A,r⟩:=M i G;rw[z]at A;obtain⟨g,U,W,s,hlen,E,L⟩:=DataW.trod_struct K r;obtain⟨_,X,o⟩:=World.cells?_some A;simp only[Prod.mk.injEq]at s;refine⟨g,U,s.1,s.2,E,λj f q=>?_⟩;obtain⟨R,N⟩:=hone_of C j f q;have V:j<fs.size:=(Array.getElem?_eq_some_iff.1 q).1;have hcell:=o j V;have T:d[j]?=some (d[j]'aa):=cq aa;have l:=L j f q;rw[R,N]at l;have k:(d.drop j).take 1=[d[j]'aa]:=by
   rw[List.drop_eq_getElem_cons aa];rfl
  rw[k]at l;have u:g[j]?=some (g[j]'aa):=cq aa;refine⟨_,_,?_,u,l.trans u⟩;rw[<-Go.Deep.add_add,hcell,T]
theorem CQ{k:IntKind}(I:P.underlying t=some (.slice e))(A:P.underlying e=some (.struct fs))(q:oneCellFields P fs=true)(s:P.cellsOf e=fs.size)(hint:∀(j:Nat) (f:Field),fs[j]?=some f->P.underlying f.type=some (.int k))(h:DataW.trod enc P w base (λ_=>true) held fuel t cs=some x) :
 cs=[.slice none 0 0]\/∃(a:Addr) (b c:Nat) (F:Nat->Nat->Int),cs=[.slice (some a) b c]/\b<=c/\c<=maxLen /\
  ∀i,i<b->∀j,j<fs.size->w.cell? (a.add (i*fs.size+j))=some (.int k (F i j)):=by
 rcases uu I A q s h with⟨d,_⟩|⟨a,b,c,m,D,Pl,d,_,E,G,r,_,C⟩
 .exact .inl d
 .have g:∀i j,∃z:Int,i<b->j<fs.size->w.cell? (a.add (i*fs.size+j))=some (.int k z):=by
   intro i j;by_cases o:i<b/\j<fs.size
   .obtain⟨J,n,_,_,_,B⟩:=C i (by simp only[if_true]at r;omega);obtain⟨v,y,u,_,H⟩:=B j fs[j] (by simp[o.2]);obtain⟨z,p,_,_⟩:=DataW.trod_int (hint j fs[j] (by simp[o.2])) H;simp at p;exact⟨z,λ_ _=>by rw[u,p]⟩
   .exact⟨0,λd l=>absurd ⟨d,l⟩ o⟩
  exact .inr ⟨a,b,c,λi j=>(g i j).choose,d,E,G,λi d j l=>(g i j).choose_spec d l⟩
theorem cN.Fl{α:Type}{f:α->List Value}{b:Addr}{a:List α}(k:∀c,(f c).length=m)(h:∀(i:Nat) (c:α),a[i]?=some c->∀(r:Nat) (u:Value),(f c)[r]?=some u->w.cell? (b.add (i*m+r))=some u):cN w f (some b) a:=by
 intro j u o
 refine⟨b,rfl,?_⟩
 have hlen:=jG k a
 have n:=(List.getElem?_eq_some_iff.1 o).1
 rw[hlen]at n
 rcases Nat.eq_zero_or_pos m with d|d
 .subst d;omega
 .have p:j/m<a.length:=Nat.div_lt_of_lt_mul (by rwa [Nat.mul_comm]at n);have q:j%m<m:=Nat.mod_lt _ d;have e:j/m*m+j%m=j:=Nat.div_add_mod' j m;have g:=cq p;have l:=tH k a (j/m) _ (j%m) g q;rw[e,o]at l;have:=h (j/m) _ g (j%m) u l.symm;rwa [e]at this
def PEv:ux Ev:=λw S r e=>∃z o:Sl,r=II e z o/\eo w S bj z.A e.aQ.cases/\dL w S .i64 o.A e.outs/\e.outs.length<=o.c/\e.aQ.cases.length<=9223372036854775807/\e.outs.length<=9223372036854775807
theorem IZ:Good PEv:=⟨λh ⟨z,o,h1,h2,h3,h4⟩=>⟨z,o,h1,h2.mono h,h3.mono h,h4⟩,λh ⟨z,o,h1,h2,h3,h4⟩=>⟨z,o,h1,h2.same h,h3.same h,h4⟩⟩
theorem RM{A:Option Addr}{g:List Value}(h:Rd w A g):∀c,A=some c->g≠[]->c.block<w.heap.size:=by
 intro c f d;rcases g with _|⟨x,l⟩
 .exact absurd rfl d
 .obtain⟨a,b,e⟩:=h 0 x rfl;rw[f]at b;injection b with b
  subst b;exact bc e
theorem Kg(h:DataW.trod enc prog w 0 (λ_=>true) true fuel 22 [v]=some x):∃(A:Option Addr) (c:Nat) (d:List Int),v=.slice A d.length c/\d.length<=c/\d.length<=9223372036854775807/\dL w (·<w.heap.size) .i64 A d:=by
 rcases open_ints underlying22 underlying3 (by kernel_rfl) h with⟨b,_⟩|⟨a,l,c,d,b,_,o,p,r,t,hcell,q⟩
 .simp at b;exact⟨none,0,[],b,aR _,aA,dL.nil _ _ _ _⟩
 .simp at b;have s:d.length=c:=by simpa using r
  have hlen:(d.take l).length=l:=by simp;omega
  have j:bD w .i64 (some a) (d.take l):=by
   intro i u e;have g:i<l/\i<d.length:=by have:=(List.getElem?_eq_some_iff.1 e).1;simp at this;omega
   refine⟨a,rfl,?_⟩;rw[hcell i g.2];simp[g.1]at e;obtain⟨z,f,rfl⟩:=e;simp[f]
  refine⟨some a,c,d.take l,by rw[hlen];exact b,by rw[hlen];exact o,by rw[hlen];unfold maxLen at p;omega,j,λk m n=>RM j k m (by simpa using n)⟩
theorem RO(h:DataW.trod enc prog w 0 (λ_=>true) true fuel 36 [v]=some x):∃(A:Option Addr) (c:Nat) (cs:List (Int×Int×Int)),v=.slice A cs.length c/\cs.length<=9223372036854775807/\eo w (·<w.heap.size) bj A cs:=by
 have hint:∀{f0 f1 f2:Field} {j:Nat} {f:Field} (_:#[f0,f1,f2][j]?=some f) (_:prog.underlying f0.type=some (.int .i64)) (_:prog.underlying f1.type=some (.int .i64)) (_:prog.underlying f2.type=some (.int .i64)),prog.underlying f.type=some (.int .i64):=by
  intro f0 f1 f2 j f b t g m;match j,b with
  |0,b=>simp at b;subst b;exact t
  |1,b=>simp at b;subst b;exact g
  |2,b=>simp at b;subst b;exact m
  |j+3,b=>simp at b
 rcases CQ underlying36 underlying101 (by kernel_rfl) (by kernel_rfl) (λj f b=>hint b underlying3 underlying3 underlying3) h with g|⟨a,d,l,F,g,C,B,z⟩
 .simp at g;exact⟨none,0,[],g,aA,eo.nil _ _ _ _⟩
 .simp at g;have hlen:((List.range d).map λi=>(F i 0,F i 1,F i 2)).length=d:=aA;have k:cN w bj (some a) ((List.range d).map λi=>(F i 0,F i 1,F i 2)):=by
   refine cN.Fl cM ?_;intro i c n r u o;have q:i<d:=by have:=(List.getElem?_eq_some_iff.1 n).1;simpa using this
   simp[q]at n;subst n;have k:r<3:=by have:=(List.getElem?_eq_some_iff.1 o).1;simpa[bj]using this
   have y:w.cell? (a.add (i*3+r))=some (.int .i64 (F i r)):=z i q r k;rw[y];obtain rfl|rfl|rfl:r=0\/r=1\/r=2:=aa;all_goals(simp[bj]at o;rw[o])
  refine⟨some a,l,_,by rw[hlen];exact g,by rw[hlen];unfold maxLen at B;omega,k,λs g m=>RM k s g λe=>?_⟩;have p:=jG (f:=bj) cM ((List.range d).map λi=>(F i 0,F i 1,F i 2));rw[e]at p;exact m (List.eq_nil_of_length_eq_zero (by simp at p ⊢;omega))
theorem jB(h:DataW.trod enc prog w 0 (λ_=>true) true fuel 3 [v]=some x):∃z,v=.int .i64 z:=by obtain⟨z,e,_,_⟩:=DataW.trod_int underlying3 h;simp at e;exact⟨z,e⟩
theorem RP(D:cs.length=9)(h:DataW.trod enc prog w 0 (λ_=>true) true fuel 60 cs=some x):∃e,PEv w (·<w.heap.size) cs e:=by
 match cs,D with
 |[v0,v1,v2,v3,v4,v5,v6,v7,v8],_ =>
  obtain⟨K,n,_,_,_,hlen,c⟩:=DataW.trod_struct underlying60 h;have b:prog.cellsOf 3=1:=by kernel_rfl
  have E:prog.cellsOf 4=1:=by kernel_rfl
  have G:prog.cellsOf 38=5:=by kernel_rfl
  have H:prog.cellsOf 22=1:=by kernel_rfl
  have F:prog.cellsOf 36=1:=by kernel_rfl
  match K,hlen with
  |[y0,y1,y2,y3,y4],_ =>
   obtain⟨o,rfl⟩:=jB (enc:=enc) (w:=w) (v:=v0) (x:=y0) (by simpa[b]using c 0 _ rfl);obtain⟨p,rfl⟩:=jB (enc:=enc) (w:=w) (v:=v1) (x:=y1) (by simpa[b]using c 1 _ rfl);have f2:DataW.trod enc prog w 0 (λ_=>true) true n 38 [v2,v3,v4,v5,v6]=some y2:=by simpa[G]using c 2 _ rfl
   obtain⟨u,rfl⟩:=jB (enc:=enc) (w:=w) (v:=v7) (x:=y3) (by simpa[b]using c 3 _ rfl);obtain⟨l,z,I,rfl,C,g,i⟩:=Kg (enc:=enc) (w:=w) (v:=v8) (x:=y4) (by simpa[H]using c 4 _ rfl);obtain⟨L,m,_,_,_,a,d⟩:=DataW.trod_struct underlying38 f2;match L,a with
   |[z0,z1,z2,z3,z4],_ =>
    obtain⟨q,rfl⟩:=jB (enc:=enc) (w:=w) (v:=v2) (x:=z0) (by simpa[b]using d 0 _ rfl);obtain⟨r,rfl⟩:=jB (enc:=enc) (w:=w) (v:=v3) (x:=z1) (by simpa[b]using d 1 _ rfl);obtain⟨s,rfl⟩:=jB (enc:=enc) (w:=w) (v:=v4) (x:=z2) (by simpa[b]using d 2 _ rfl);have A:DataW.trod enc prog w 0 (λ_=>true) true m 4 [v5]=some z3:=by simpa[E]using d 3 _ rfl
    obtain⟨t,j,_⟩:=DataW.trod_bool underlying4 A;simp at j;subst j;obtain⟨k,y,J,rfl,B,f⟩:=RO (enc:=enc) (w:=w) (v:=v6) (x:=z4) (by simpa[F]using d 4 _ rfl);exact⟨⟨o,p,⟨q,r,s,t,J⟩,u,I⟩,⟨k,y⟩,⟨l,z⟩,rfl,f,i,C,B,g⟩
theorem Nf{A:Option Addr}{c:Nat}{p:List MemPlace}(h:DataW.Trod enc prog w 0 (λ_=>true) true 25 (.slice A m c) d p) :
 ∃C:List Ev,m=C.length/\jv 9 PEv w (·<w.heap.size) A C:=by
 obtain⟨fuel,h⟩:=h
 rcases open_slice underlying25 h with⟨y,_⟩|⟨a,N,G,T,n,D,Pl,k,P,Q,S,E,v,J⟩
 .simp[Value.cells]at y;obtain⟨rfl,rfl,rfl⟩:=y;exact⟨[],rfl,jv.nil _ _ _ _ _⟩
 .simp[Value.cells]at k;obtain⟨rfl,rfl,rfl⟩:=k;have L:prog.cellsOf 60=9:=by kernel_rfl
  have l:∀(e:Ev) (z o:Sl),∀u∈II e z o,u.oneCell'=true:=λe z o=>List.all_eq_true.1 (by rfl);have f:∀i,∃(e:Ev) (r:Row 9),i<m->PEv w (·<w.heap.size) r.val e/\∀(j:Nat) (u:Value),r.val[j]?=some u->w.cell? (a.add (i*9+j))=some u:=by
   intro i;by_cases O:i<m
   .obtain⟨H,B,t⟩:=J i (by simp only[if_true]at E;omega);rw[L]at B;obtain⟨_,M,s⟩:=World.cells?_some B;obtain⟨e,z,o,I,b⟩:=RP M t;refine⟨e,⟨II e z o,rfl,l e z o⟩,λ_=>⟨⟨z,o,rfl,b⟩,λj u q=>?_⟩⟩;have K:j<9:=(List.getElem?_eq_some_iff.1 q).1;rw[<-Go.Deep.add_add,s j K,I,q]
   .exact⟨⟨0,0,sr,0,[]⟩,⟨II ⟨0,0,sr,0,[]⟩ ⟨none,0⟩ ⟨none,0⟩,rfl,l _ _ _⟩,λh=>absurd h O⟩
  obtain⟨F,R,hF⟩:∃(F:Nat->Ev) (R:Nat->Row 9),∀i,i<m->PEv w (·<w.heap.size) (R i).val (F i)/\∀(j:Nat) (u:Value),(R i).val[j]?=some u->w.cell? (a.add (i*9+j))=some u:=⟨λi=>(f i).choose,λi=>(f i).choose_spec.choose,λi=>(f i).choose_spec.choose_spec⟩
  refine⟨(List.range m).map F,aA,(List.range m).map R,aA,cN.Fl bY ?_,?_⟩
  .intro i r b j u q;have g:i<m:=by have:=(List.getElem?_eq_some_iff.1 b).1;simpa using this
   simp[g]at b;subst b;exact(hF i g).2 j u q
  .intro i r x b v;have g:i<m:=by have:=(List.getElem?_eq_some_iff.1 b).1;simpa using this
   simp[g]at b v;subst b v;exact(hF i g).1
theorem aaa{p:List MemPlace}{r:Reach}{b:Nat}(E:Value.okWide prog w r b 24 v)(h:DataW.Trod enc prog w 0 (λ_=>true) true 24 v d p):∃(c:dG) (A:Option Addr) (k:Nat),v=j8 c A c.start.length k/\bD w .i64 A c.start:=by
 have g:=underlying24;obtain⟨B,rfl,f⟩:=okWide_struct g E;have f:=f.trans (by kernel_rfl:prog.cellsOf 24=11);obtain⟨l⟩:=B;match l,f with
 |[c0,c1,c2,c3,c4,c5,c6,c7,c8,c9,c10],_ =>
  obtain⟨fuel,C⟩:=h;obtain⟨G,n,_,_,_,hlen,a⟩:=DataW.trod_struct g C;have e:prog.cellsOf 3=1:=by kernel_rfl
  have F:prog.cellsOf 22=1:=by kernel_rfl
  match G,hlen with
  |[y0,y1,y2,y3,y4,y5,y6,y7,y8,y9,y10],_=>obtain⟨i,rfl⟩:=jB (enc:=enc) (w:=w) (v:=c0) (x:=y0) (by simpa[e,Value.cells]using a 0 _ rfl);obtain⟨j,rfl⟩:=jB (enc:=enc) (w:=w) (v:=c1) (x:=y1) (by simpa[e,Value.cells]using a 1 _ rfl);obtain⟨m,rfl⟩:=jB (enc:=enc) (w:=w) (v:=c2) (x:=y2) (by simpa[e,Value.cells]using a 2 _ rfl);obtain⟨o,rfl⟩:=jB (enc:=enc) (w:=w) (v:=c3) (x:=y3) (by simpa[e,Value.cells]using a 3 _ rfl);obtain⟨q,rfl⟩:=jB (enc:=enc) (w:=w) (v:=c4) (x:=y4) (by simpa[e,Value.cells]using a 4 _ rfl);obtain⟨s,rfl⟩:=jB (enc:=enc) (w:=w) (v:=c5) (x:=y5) (by simpa[e,Value.cells]using a 5 _ rfl);obtain⟨t,rfl⟩:=jB (enc:=enc) (w:=w) (v:=c6) (x:=y6) (by simpa[e,Value.cells]using a 6 _ rfl);obtain⟨u,rfl⟩:=jB (enc:=enc) (w:=w) (v:=c7) (x:=y7) (by simpa[e,Value.cells]using a 7 _ rfl);obtain⟨y,rfl⟩:=jB (enc:=enc) (w:=w) (v:=c8) (x:=y8) (by simpa[e,Value.cells]using a 8 _ rfl);obtain⟨z,rfl⟩:=jB (enc:=enc) (w:=w) (v:=c9) (x:=y9) (by simpa[e,Value.cells]using a 9 _ rfl);obtain⟨A,k,H,rfl,_,_,D⟩:=Kg (enc:=enc) (w:=w) (v:=c10) (x:=y10) (by simpa[F,Value.cells]using a 10 _ rfl);exact⟨⟨i,j,m,o,q,s,t,u,y,z,H⟩,A,k,rfl,D.1⟩
end Go.Proofs.YtpfbfhfcbdbglaaGreat
