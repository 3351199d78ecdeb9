/- Walks and plain facts. No condition. -/
import Derived.Test.YtpfbfhfcbdbglaaGreatPf
namespace Go.Proofs.YtpfbfhfcbdbglaaGreat
open Go.Proofs.Tryz Mo
set_option maxHeartbeats 8000000
set_option maxRecDepth 100000
set_option linter.all false
variable {q:Rq}{hd dir tt seq:Int}{c:dG}{W:List Wt}{D:List Rs}{i:Nat}{x:Ch}{α:Type}
namespace Mo
def TY(l:List Wt)(g:Int)(p:Nat):Prop:=∀w∈l,∀y∈w.cases,y.2.1≠g*8+p
def R9(h:Hl)(p:Nat)(k:Ch):Prop:=h.chans[p]?=some k/\k.used=true/\k.closed=true
def qM(h:Hl):Prop:=∀p k,R9 h p k->TY h.waits k.gen p
def sf(h:Hl)(W:List Wt):Prop:=∀x∈W,x∈h.waits\/∀p k,R9 h p k->TY [x] k.gen p
def Ag(h:Hl):Prop:=∀k∈h.chans,k.used=true->1<=k.gen
structure pU (h g:Hl):Prop where
 w:sf h g.waits
 n:∀p k,R9 g p k->(∃x,R9 h p x/\x.gen=k.gen)\/TY g.waits k.gen p
 k:∀p k,R9 h p k->∃n,g.chans[p]?=some n/\(n.used=true->n.gen=k.gen->n.closed=true/\∃d,n.buf=k.buf.drop d)
 j':Ag h->Ag g
 d:g.done.length=h.done.length
variable{h g:Hl} {p:Nat} {k:Ch} {l:List Wt} {t:Nat}
theorem pU.nob(K:pU h g)(J:qM h)(H:R9 h p k):TY g.waits k.gen p:=λx b y a=>(K.w x b).elim (λq=>J p k H x q y a) λq=>q p k H x (.head _) y a
theorem pU.j(K:pU h g)(J:qM h):qM g:=λp k H=>(K.n p k H).elim (λ⟨_,a,d⟩=>d▸K.nob J a) id
theorem tY(L:List Told):∀d:List Rs,(fN d L).length=d.length:=by
 induction L with
 |nil=>exactλ_=>rfl
 |cons x L a=>exactλd=>(a _).trans (dN ..)
theorem Gz(b:sf h W)(T:Int)(a:D.length=h.done.length):pU h ⟨T,h.chans,W,D⟩:=⟨b,λ_ k H=>.inl ⟨k,H,rfl⟩,λ_ k H=>⟨k,H.1,λ_ _=>⟨H.2.2,0,rfl⟩⟩,id,a⟩
theorem pU.refl(h:Hl):pU h h:=Gz (λ_ h=>.inl h) _ rfl
theorem qN{n:Ch}{T:Int}(f:h.chans[i]?=some x)(s:sf h W)(j:n.used=true->n.closed=true->x.used=true/\x.closed=true/\x.gen=n.gen\/TY W n.gen i)(m:x.used=true->x.closed=true->n.used=true->n.gen=x.gen->n.closed=true/\∃d,n.buf=x.buf.drop d)(o:n.used=true->x.used=true/\x.gen=n.gen\/1<=n.gen)(r:D.length=h.done.length):pU h ⟨T,h.chans.set i n,W,D⟩:=by
 have g:i<h.chans.length:=(List.getElem?_eq_some_iff.1 f).1
 refine⟨s,λp k ⟨a,b,c⟩=>?_,λp k ⟨a,b,c⟩=>?_,λG k l u=>(List.mem_or_eq_of_mem_set l).elim (λe=>G k e u) λe=>by
  subst e
  exact(o u).elim (λe=>e.2▸G x (cH f) e.1) id,r⟩
 .rcases Nat.decEq i p with e|rfl
  .exact .inl ⟨k,⟨(List.getElem?_set_ne e).symm.trans a,b,c⟩,rfl⟩
  .cases(List.getElem?_set_self g).symm.trans a
   exact(j b c).imp (λ⟨a,b,c⟩=>⟨x,⟨f,a,b⟩,c⟩) id
 .rcases Nat.decEq i p with e|rfl
  .exact⟨k,(List.getElem?_set_ne e).trans a,λ_ _=>⟨c,0,rfl⟩⟩
  .cases f.symm.trans a
   exact⟨n,List.getElem?_set_self g,m b c⟩
theorem JD(b:sf h l):sf h (et l t):=λy d=>(List.mem_or_eq_of_mem_set d).elim (b y) λe=>.inr λp k _ x c f a=>by
 subst e
 cases c with
 |head=>cases a
 |tail _ h=>cases h
theorem uZ:sf h h.waits:=λ_ h=>.inl h
theorem qO(j:bP h hd=some i):∃x,h.chans[i]?=some x/\x.used=true/\fO h i=x/\hd=x.gen*8+i/\i<8:=by
 unfold bP at j;split at j
 .cases j
 split at j
 .cases j
 split at j
 .rename_i a _ x b c;injection j with d
  subst d;refine⟨x,b,c.1,by unfold fO;rw[ew,b];rfl,?_⟩;have e:=c.2;unfold cJ at a e ⊢;split at a
  .exact absurd rfl a
  rename_i f;rw[au f]at e ⊢;dsimp only at *;omega
 .cases j
theorem Ls{d:Int}(h:TY l d p)(e:hd=d*8+p):dt l dir hd=none:=by
 cases c:dt l dir hd with
 |none=>rfl
 |some q =>
  obtain⟨x,a,b⟩:=su (t:=q.1) (i:=q.2) c;unfold mh at b;split at b
  .obtain⟨u,v,-⟩:=List.findIdx?_eq_some_iff_getElem.1 b;simp at v;exact absurd (v.2.trans e) (h x (cH a) _ (List.getElem_mem u))
  .cases b
theorem Pq{v:Int}(n:x.used=true)(m:l=h.waits)(J:x.closed=true->TY l x.gen p)(e:hd=x.gen*8+p)(j:cX x hd l dir=true) :
 sf h (nz x hd l dir v).l/\(∃b,(nz x hd l dir v).c={x with buf:=b})/\(x.closed=true->(∃d,(nz x hd l dir v).c.buf=x.buf.drop d)/\((nz x hd l dir v).r.code=9->dir=1\/x.buf=[])):=by
 have g:sf h l:=m▸uZ
 unfold nz
 rw[au (by rw[j];decide)]
 split
 .rename_i d;unfold mP;split
  .exact⟨JD g,⟨_,rfl⟩,λc=>by rw[d.2]at c;cases c⟩
  .exact⟨g,⟨_,rfl⟩,λc=>by rw[d.2]at c;cases c⟩
 split
 .unfold mQ;split
  .exact⟨g,⟨_,rfl⟩,λ_=>⟨⟨1,rfl⟩,λc=>by cases c⟩⟩
  .rename_i f;refine⟨JD g,⟨_,rfl⟩,λc=>?_⟩;rw[Ls (J c) e]at f;cases f
 .rename_i a b;refine⟨g,⟨_,rfl⟩,λc=>⟨⟨0,rfl⟩,λ_=>?_⟩⟩;unfold cX at j;rw[au (by rw[n];decide)]at j;split at j
  .exact .inl ‹_›
  split at j
  .exact .inr (List.eq_nil_of_length_eq_zero (by have:=λh=>b ⟨‹_›,.inl h⟩;omega))
  .cases j
def yo(h:Hl)(q:Rq)(r:Rs):Prop:=∀p k,R9 h p k->(q.kind=4->q.arg=k.gen*8+p->r.code=9)/\(q.kind=3->r.code=9->0<=r.cs->∀y,q.cases[r.cs.toNat]?=some y->y.2.1=k.gen*8+p->y.1=1\/k.buf=[])
theorem yo.of{r:Rs}(a:q.kind≠4)(d:r.code≠9):yo h q r:=λ_ _ _=>⟨λe=>absurd e a,λ_ e=>absurd e d⟩
theorem JE{L:List Cs}(d:ed h L=0){y:Cs}(f:y∈L):(y.1=1\/y.1=2)/\∃i,bP h y.2.1=some i:=by
 unfold ed at d;split at d
 .cases d
 split at d
 .cases d
 split at d
 .cases d
 rename_i a b;simp only[Bool.not_eq_true,List.any_eq_false]at a b;have a:=a y f;have b:=b y f;constructor
 .simp at a;omega
 .cases e:bP h y.2.1 with
  |none=>rw[e]at b;cases b
  |some i=>exact⟨i,rfl⟩
theorem D7(J:qM h)(L:h.chans.length<=8)(K:q.kind=3):pU h (cQ h tt seq q).1/\yo h q (cQ h tt seq q).2:=by
 have s:q.kind≠4:=by omega
 have E:∀{p k},R9 h p k->p<8:=λH=>by have:=(List.getElem?_eq_some_iff.1 H.1).1;omega
 unfold cQ;split
 .refine⟨.refl h,.of s λe=>?_⟩;have:ed h q.cases=9:=e;unfold ed at this;split at this
  .omega
  split at this
  .omega
  split at this<;>omega
 rename_i t;have t:ed h q.cases=0:=Classical.not_not.1 t;split
 .rename_i i z;obtain⟨u,v,-⟩:=List.findIdx?_eq_some_iff_getElem.1 z;have r:q.cases.getD i (0,0,0)=q.cases[i]:=by rw[ew,cq u];rfl
  rw[r];obtain⟨-,j,o⟩:=JE t (List.getElem_mem u);obtain⟨x,a,b,c,d,e⟩:=qO o;rw[o]at v;dsimp only[Option.getD_some]at v;rw[c]at v;obtain⟨A,⟨I,B⟩,C⟩:=Pq (v:=q.cases[i].2.2) b rfl (λf=>J j x ⟨a,b,f⟩) d v;unfold wO;rw[o];dsimp only[Option.getD_some];rw[c];refine⟨qN a A (λf g=>.inl ?_) (λf g _ _=>?_) (by rw[B];exactλ_=>.inl ⟨b,rfl⟩) (tY _ _),λp k H=>⟨λf=>absurd f s,λ_ f _ y D g=>?_⟩⟩
  .rw[B]at f g ⊢;exact⟨f,g,rfl⟩
  .exact⟨by rw[B];exact g,(C g).1⟩
  .rw[show((i:Int)).toNat=i from rfl,cq u]at D;cases D
   have:=E H;have:p=j:=by omega
   subst this;cases a.symm.trans H.1
   exact(C H.2.2).2 f
 .rename_i z;split
  .exact⟨.refl h,.of s λe=>by cases e⟩
  split
  .exact⟨.refl h,.of s λe=>by cases e⟩
  split
  .exact⟨.refl h,.of s λe=>by cases e⟩
  rename_i l n;refine⟨Gz (λx G=>?_) _ rfl,.of s λe=>by cases e⟩;unfold zR at n;split at n
  .cases n
  split at n
  .cases n
  split at n
  .cases n
  cases n
  refine(List.mem_or_eq_of_mem_set G).imp id λe p k H w F y r f=>?_;cases F with
  |tail _ h=>cases h
  |head =>
   subst e;have r:y∈q.cases:=r;obtain⟨m,j,o⟩:=JE t r;obtain⟨x,a,b,c,d,e⟩:=qO o;have:=E H;have:p=j:=by omega
   subst this;cases a.symm.trans H.1
   have:=List.findIdx?_eq_none_iff.1 z y r;rw[o]at this;dsimp only[Option.getD_some]at this;rw[c]at this;unfold cX at this;rw[au (by rw[b];decide),H.2.2]at this;rcases m with m|m<;>simp[m]at this
theorem xt{α:Type}(a:α->α->Bool)(x z:α):∀l:List α,z=x\/z∈l->z∈gJ a x l
 |[],h=>h.elim (λh=>h▸.head _) λh=>by cases h
 |y::l,h=>by
  unfold gJ
  split
  .rcases h with h|h
   .exact .tail _ (xt a x z l (.inl h))
   .cases h with
    |head=>exact .head _
    |tail _ h=>exact .tail _ (xt a x z l (.inr h))
  .exact h.elim (λh=>h▸.head _) (.tail _)
theorem Pr(b:α->α->Bool){z:α}{l:List α}(h:z∈l):z∈eA b l:=by
 have:∀(l a:List α),z∈a\/z∈l->z∈l.foldl (λa x=>gJ b x a) a:=by
  intro l;induction l with
  |nil=>intro a h;exact h.elim id λh=>by cases h
  |cons y l c =>
   intro a h;exact c _ (h.elim (λh=>.inl (xt b y z a (.inr h))) λh=>by cases h with
    |head=>exact .inl (xt b _ _ a (.inl rfl))
    |tail _ h=>exact .inr h)
 exact List.mem_reverse.2 (this l [] (.inr h))
theorem Ps{L:List Nat}{t:Nat}{x:Wt}:∀{l:List Wt},(L.foldl et l)[t]?=some x->x=fU\/t∉L/\l[t]?=some x:=by
 induction L with
 |nil=>exactλh=>.inr ⟨(nomatch ·),h⟩
 |cons a L c =>
  intro l h;rcases c h with h|⟨d,b⟩
  .exact .inl h
  .unfold et at b;rcases Nat.decEq a t with e|rfl
   .rw[List.getElem?_set_ne e]at b;exact .inr ⟨λh=>by cases h;exact e rfl;contradiction,b⟩
   .rw[List.getElem?_set]at b;simp at b;exact .inl b.2.symm
theorem YA(b:sf h l)(L:List Nat):sf h (L.foldl et l):=by
 induction L generalizing l with
 |nil=>exact b
 |cons a L c=>exact c (JD b)
theorem Lt(G:Ag h)(C:∀k∈h.chans,k.gen<=4095)(B:∀x∈h.waits,fX x=true)(I:q.kind=4)(J:h.chans.length<=8):pU h (mS h q.arg).1/\yo h q (mS h q.arg).2:=by
 have z:q.kind≠3:=by omega
 have v:∀{p k},R9 h p k->p<8:=λH=>by have:=(List.getElem?_eq_some_iff.1 H.1).1;omega
 have R:∀{r:Rs} {i x},bP h q.arg=some i->h.chans[i]?=some x->(x.closed=true->r.code=9)->yo h q r:=λ{r i x} a b c p k H=>⟨λ_ e=>by
  obtain⟨K,A,-,-,d,f⟩:=qO a
  cases b.symm.trans A
  have:=v H
  have:p=i:=by omega
  subst this
  cases b.symm.trans H.1
  exact c H.2.2,λe=>absurd e z⟩
 unfold mS;split
 .rename_i j;refine⟨.refl h,λp k H=>⟨λ_ e=>?_,λe=>absurd e z⟩⟩;have:=v H;obtain⟨a,b,c⟩:=H;have l:=G k (cH a) b;have m:=C k (cH a);have u:cJ q.arg=((p:Int),k.gen,true):=by
   rw[e];unfold cJ;rw[au (by omega)];congr 1
   .omega
   .congr 1;omega
  unfold bP at j;rw[u]at j;simp[a,b]at j
 .rename_i i j;obtain⟨x,a,b,c,d,e⟩:=qO j;rw[c];dsimp only;unfold kP;split
  .rename_i f;have f:x.closed=true:=f.elim (λf=>by rw[b]at f;cases f) id;exact⟨qN a uZ (λ_ _=>.inl ⟨b,f,rfl⟩) (λ_ _ _ _=>⟨f,0,rfl⟩) (λ_=>.inl ⟨b,rfl⟩) (tY _ _),R j a λ_=>rfl⟩
  .rename_i f;have f:x.closed≠true:=λe=>f (.inr e);refine⟨qN a (YA uZ _) (λ_ _=>.inr λw E y s g=>?_) (λ_ e=>absurd e f) (λ_=>.inl ⟨b,rfl⟩) (tY _ _),R j a λe=>absurd e f⟩;obtain⟨t,D⟩:=List.getElem?_of_mem E;rcases Ps D with rfl|⟨m,n⟩
   .cases s
   .have o:=B w (cH n);have F:w.on=true:=by
     unfold fX at o;cases u:w.on
     .rw[ay u]at o;simp at o;rw[o.2]at s;cases s
     .rfl
    refine m (Pr _ (List.mem_filter.2 ⟨List.mem_range.2 (List.getElem?_eq_some_iff.1 n).1,?_⟩));rw[ew,n,Option.getD_some,F,Bool.true_and];exact List.any_eq_true.2 ⟨y,s,by rw[beq_iff_eq];exact g.trans d.symm⟩
theorem Lu(F:kJ c h)(j:h.chans.length<=8)(J:qM h)(G:Ag h):pU h (eR c h tt seq q).1/\yo h q (eR c h tt seq q).2:=by
 have f:∀k∈h.chans,0<=k.gen/\k.gen<=4095:=λk d=>(cK.1 (F.ch k d)).1;have Z:∀{r:Rs},q.kind≠4->q.kind≠3->yo h q r:=λa b _ _ _=>⟨λe=>absurd e a,λe=>absurd e b⟩
 unfold eR;split
 .refine⟨?_,Z (by omega) (by omega)⟩;unfold lH;split
  .exact .refl h
  split
  .rename_i i l;obtain⟨x,a,b,-⟩:=rr _ _ _ _ l;have:=f x (cH a);have e:fO h i=x:=by unfold fO;rw[ew,a];rfl
   rw[e];exact qN a uZ (λ_ e=>by cases e) (λe=>by rw[b]at e;cases e) (λ_=>.inr (by dsimp only;omega)) rfl
  .exact .refl h
 split
 .refine⟨?_,Z (by omega) (by omega)⟩;unfold mR;split
  .exact .refl h
  split
  .exact .refl h
  .rename_i i g _;obtain⟨x,a,b,-⟩:=qO g;exact qN a uZ (λe=>by cases e) (λ_ _ e=>by cases e) (λe=>by cases e) rfl
 split
 .exact D7 J j ‹_›
 split
 .exact Lt G (λk d=>(f k d).2) F.wt ‹_› j
 split
 .exact⟨.refl h,Z (by omega) (by omega)⟩
 split
 .refine⟨?_,Z (by omega) (by omega)⟩;unfold eL;split
  .exact .refl h
  .exact Gz (JD uZ) _ (tY _ _)
 .exact⟨.refl h,Z ‹_› ‹_›⟩
theorem GB:qM (eb c)/\Ag (eb c):=by
 have:∀k∈(eb c).chans,k.closed=false/\(k.used=true->k.gen=1):=λk a=>by
  obtain⟨i,-,e⟩:=List.mem_map.1 a
  subst e
  split<;>simp[Dg]
 exact⟨λp k H=>absurd ((this k (cH H.1)).1.symm.trans H.2.2) (by decide),λk a u=>by have:=(this k a).2 u;omega⟩
theorem yq{o:Op}(F:kJ c h)(a:h.chans.length<=8)(J:qM h)(G:Ag h)(j:0<=o.th)(f:o.th.toNat<h.done.length):qM (cY c h o.th o.seq o.aQ)/\Ag (cY c h o.th o.seq o.aQ) /\
 ∀p k,R9 h p k->TY (cY c h o.th o.seq o.aQ).waits k.gen p/\(∃n,(cY c h o.th o.seq o.aQ).chans[p]?=some n/\(n.used=true->n.gen=k.gen->n.closed=true/\∃d,n.buf=k.buf.drop d)) /\
  ∃r,(cY c h o.th o.seq o.aQ).done[o.th.toNat]?=some r/\(o.aQ.kind=4->o.aQ.arg=k.gen*8+p->r.code=9)/\(o.aQ.kind=3->r.code=9->0<=r.cs->∀y,o.aQ.cases[r.cs.toNat]?=some y->y.2.1=k.gen*8+p->y.1=1\/k.buf=[]):=by
 obtain⟨K,R⟩:=Lu (tt:=o.th) (seq:=o.seq) (q:=o.aQ) F a J G
 have t:=K.d
 have e:(cY c h o.th o.seq o.aQ).done=(eR c h o.th o.seq o.aQ).1.done.set o.th.toNat {(eR c h o.th o.seq o.aQ).2 with seq:=o.seq}:=by unfold cY cY.xC;dsimp only;rw[au (by omega)]
 have K:pU h (cY c h o.th o.seq o.aQ):=⟨K.w,K.n,K.k,K.j',by rw[e,dN,t]⟩
 exact⟨K.j J,K.j' G,λp k H=>⟨K.nob J H,K.k p k H,{(eR c h o.th o.seq o.aQ).2 with seq:=o.seq},by rw[e,List.getElem?_set_self (by omega)],R p k H⟩⟩
end Mo
end Go.Proofs.YtpfbfhfcbdbglaaGreat
