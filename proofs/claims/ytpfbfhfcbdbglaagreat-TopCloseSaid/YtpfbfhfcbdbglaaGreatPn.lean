/- Walks and plain facts. No condition. -/
import Derived.Test.YtpfbfhfcbdbglaaGreatPm
namespace Go.Proofs.YtpfbfhfcbdbglaaGreat
open Go.RowKit Go.Proofs.Tryz Mo
set_option maxHeartbeats 8000000
set_option maxRecDepth 100000
set_option linter.all false
variable {w w' wx w1 W0 wB W w4 w5 wy:World}{n k x0 p base i j b gn g5 g6:Nat}{A zA:Option Addr}{x x':Mo.Mc}{s:Sx}{m m':Mm}{c:Mo.dG}{X S' SS O:Nat->Prop}{α:Type}{t:Int}{e:TypeId}{v v':Value}{o o':Sl}{y:Mo.Tn}{ops:Array Oper}{a:Act}{Q:Exit->Act->World->Prop}{N':List Mo.Nt}{E:Prop}{z':Sh}{xs:List α}
variable[OW]
theorem IF:∀(a A B:List α) (o:Nat),o+a.length<=A.length->ic (A++B) o a=ic A o a++B:=by
 intro a;induction a with
 |nil=>intro A B o _;rfl
 |cons v a b=>intro A B o h;simp only[List.length_cons]at h;rw[ic,List.set_append_left _ _ aa,b _ _ _ (by rw[dN];omega),ic]
theorem Rm{m:Nat}:∀(rows:List (Row m)) (i o:Nat) (a:List Value) (r b:Row m),rows[i]?=some r->b.val=ic r.val o a->o+a.length<=m->ic (rows.flatMap dF) (i*m+o) a=(rows.set i b).flatMap dF:=by
 intro rows;induction rows with
 |nil=>intro i o a r b h;simp at h
 |cons x l e =>
  intro i o a r b h c d;rcases i with _|i
  .injection h with h
   subst h;rw[List.flatMap_cons,Nat.zero_mul,Nat.zero_add,IF _ _ _ _ (by rw[bY];exact d)];show ic x.val o a++_=_;rw[<-c];rfl
  .rw[List.flatMap_cons,uV _ _ _ _ (by rw[bY,Nat.add_mul];omega),bY,show(i+1)*m+o-m=i*m+o by rw[Nat.add_mul];omega,e i o a r b (by simpa using h) c d];rfl
theorem M8:∀(a L:List α) (o:Nat) (u:α),u∈ic L o a->u∈L\/u∈a:=by
 intro a;induction a with
 |nil=>intro L o u h;exact .inl h
 |cons v a b =>
  intro L o u h;rw[ic]at h;rcases b _ _ _ h with h|h
  .rcases List.mem_or_eq_of_mem_set h with h|h
   .exact .inl h
   .exact .inr (by rw[h];exact List.mem_cons_self)
  .exact .inr (List.mem_cons_of_mem _ h)
section
variable{m:Nat}{P:ux α}{S:Nat->Prop}{g c:Nat}
theorem aD.part(C:Good P)(h:aD e m P w base S (.slice g n c) xs){x:α}(B:xs[i]?=some x)(o:Nat)(d:List Value)(K:o+d.length<=m)(F:∀u∈d,u.oneCell'=true)(H:¬S g)(G:∀r,r.length=m->P w S r x->P w S (ic r o d) x) :
 aD e m P (ax w g (i*m+o) d) base S (.slice g n c) xs:=by
 have hlen:=h.len
 obtain⟨rows,t,v,l⟩:=h
 have L:i<xs.length:=bT B
 have A:i<rows.length:=aa
 have q:Sm S w (ax w g (i*m+o) d):=λb E=>aM (λI=>by subst I;exact H E) d _
 have p:=cq A
 have D:∀z∈ic rows[i].val o d,z.oneCell'=true:=λz a=>(M8 _ _ _ _ a).elim (rows[i].property.2 z) (F z)
 obtain⟨s,j⟩:∃s:Row m,s.val=ic rows[i].val o d:=⟨⟨_,by rw[KT];exact rows[i].property.1,D⟩,rfl⟩
 refine⟨rows.set i s,by simp[t],?_,?_⟩
 .have J:n=rows.length:=aa;subst J;have:=tR d w (i*m+o) _ v;unfold aH;rw[dN, <-Rm rows i o d rows[i] s p j K];exact this
 .intro k r z f a;by_cases y:k=i
  .subst y;rw[List.getElem?_set_self A]at f;rw[B]at a;injection f with f;injection a with a
   subst f a;rw[j];exact C.same q (G _ rows[k].property.1 (l k _ x p B))
  .rw[List.getElem?_set_ne (λh=>y h.symm)]at f;exact C.same q (l k r z f a)
end
def Bv(S:Nat->Prop)(n:Nat)(v:Value)(w:World)(b:Nat):Prop:=(S b\/n<=b)/\b<w.heap.size/\v.ownBlock≠some b
section
variable{m:Nat}{P:ux α}{S:Nat->Prop}
theorem aD.grow(f:Good P)(h:aD e m P w base (Bv S n v w) v xs)(d:Below w w w'):aD e m P w' base (Bv S n v w') v xs:=(h.move f (λb a=>d.block b a.2.1) λb a=>d.block b (aD.lt h a).2).mono f λb a=>⟨a.1,bW a.2.1 d.size,a.2.2⟩
theorem Bv.of(h:aD e m P w base S v xs)(l:w.heap.size=n)(d:∀b,S b->b<n)(r:n<=base)(f:Good P):aD e m P w base (Bv S n v w) v xs:=h.mono f λb a=>⟨.inl a,by rw[l];exact d b a,λe=>by have:=(aD.lt h e).1;have:=d b a;omega⟩
theorem Bv.start(h:aD e m P w' w S v xs)(f:∀b,S b->b<w.heap.size)(r:Below w w w')(l:Good P):aD e m P w' w (Bv S w v w') v xs:=h.mono l λb a=>⟨.inl a,bW (f b a) r.size,λe=>by have:=(aD.lt h e).1;have:=f b a;omega⟩
theorem Bv.own{g c:Nat}(w:World):¬Bv S n (.slice g m c) w g:=λh=>h.2.2 rfl
end
theorem J8(w:World)(A:Option Addr)(n c:Nat)(l:List Mo.Op)(I:n=l.length)(hl:n<=1000000)(R:∀x∈l,x.aQ.cases.length<=1000000){S:Nat->Prop}(G:∀b,S b->b<w.heap.size)(q:jv 8 FD w S A l):Calls prog 28 #[.slice A n c] w λe w'=>∃B d,e=.returned (.slice B n d)/\aD 40 8 FD w' w (Bv S w (.slice B n d) w') (.slice B n d) l/\Below w w w':=by
 obtain⟨rows,K,Q,T⟩:=q.BN;obtain⟨L,Y,X,Z⟩:=bh ((xU w A c rows (by rw[K];exact I) hl Q).mono λe w' h=>fH.toX jz G K T h) R I G;clear K Q T I R G q;go_enter func28,ntmps28;go_wp2_with fail;refine L.mono ?_;rintro e w1 ⟨B,d,rfl,hd,q,k⟩;obtain⟨HO,HB⟩:=av (Bv.start q Z k jz) k;clear k q L hd;go_wp2;go_loopw[4,9] (λ_ i wr=>∃j:Nat,j<=n/\i=j/\Hid (Below w w wr)/\Hid (aD 40 8 FD wr w (Bv S w (.slice B n d) wr) (.slice B n d) l)) (λ_ i _=>n-(intOf i).toNat);case atStart=>exact⟨0,aZ _,rfl,HB,HO⟩
 case round =>
  clear HB HO;obtain⟨j,hj,rfl,HB,HO⟩:=hrel;by_cases H:j<n
  .have s:j<l.length:=by rw[<-X.Y];exact H
   obtain⟨g,d',hv,P,m⟩:=aD.form HO (by rintro e;rw[e]at s;exact absurd s (Nat.not_lt_zero _));injection hv with oq hv2 hv3
   subst oq hv3;clear hv2;obtain⟨x,o⟩:∃x,l[j]?=some x:=⟨_,cq s⟩
   obtain⟨r,⟨U,dq,rfl,M⟩,J,f⟩:=aD.at_ HO o;have z:=f 3 _ rfl;have C:=f 4 _ rfl;have D:=f 5 _ rfl;have E:=f 6 _ rfl;have F:=f 7 _ rfl;have f3:=λi=>aD.bq HO (i:=i);have p:=ae (jY wr x.aQ ⟨U,dq⟩ (Y x (cH o)) M.1);unfold nS at p;dsimp only at p;have HX:=ae o;clear J f o s M;go_wp2_with fail;refine p.mono ?_;rintro e w2 ⟨⟨t,v⟩,rfl,(gO:Hid _),a⟩;obtain⟨N,bB,W,y⟩:=bh (aD.grow jz HO a) (ah HB a) m P;have hg:=bW m a.size;have d3:=Below.cell a (bc z) |>.trans z
   have d4:=Below.cell a (bc C) |>.trans C
   have d5:=Below.cell a (bc D) |>.trans D
   have d6:=Below.cell a (bc E) |>.trans E
   have d7:=Below.cell a (bc F) |>.trans F
   have V:Hid (w.heap.size<=wr.heap.size):=HB.size;clear a z C D E F f3 HO HB P m p;have f3:=λi=>aD.bq N (i:=i);go_wp2_with fail;have hP:=aD.part jz N HX 3 [x.aQ.kind,x.aQ.arg,x.aQ.value,x.aQ.dflt,.slice t x.aQ.cases.length v] (aR _) (by intro u O;simp at O;rcases O with rfl|rfl|rfl|rfl|rfl<;>rfl) (Bv.own _) (by
    rintro r _ ⟨B9,d9,rfl,_⟩;exact⟨t,v,rfl,gO.1.mono λb k=>⟨.inr (bm V k.1),k.2,λe=>by injection e with e;have e:g=_:=e;have:=k.1;have:=W.Y;omega⟩⟩)
   have NC:=hP.mono jz (S':=Bv S w (.slice g n d) (ax w2 g (j*8+3) [x.aQ.kind,x.aQ.arg,x.aQ.value,x.aQ.dflt,.slice t x.aQ.cases.length v])) λb k=>⟨k.1,by rw[bO];exact k.2.1,k.2.2⟩
   obtain⟨j5,bU⟩:=av NC (az y [x.aQ.kind,x.aQ.arg,x.aQ.value,x.aQ.dflt,.slice t x.aQ.cases.length v] _ (j*8+3) bB);exact ZY
  .exact ZZ
section
variable{q:Nat}
theorem Fa(H:MS w x0 A n k q x s){m:Nat}(z:m=x.V.length)(hl:m<=1000000)(R:∀y∈x.V,y.ops.length<=1000000/\∀o∈y.ops,o.aQ.cases.length<=1000000):Calls prog 9 #[.pointer (some ⟨x0,0,none⟩)] w λe w'=>∃B d,e=.returned (.slice B m d)/\aD 80 3 Xw w' w (Bv (s.I w x0) w (.slice B m d) w') (.slice B m d) x.V/\Below w w w':=by
 have K:Hid (∀b,s.I w x0 b->b<w.heap.size):=λb a=>a.1;have Y:=ae (rR H);obtain⟨V,e,v⟩:=aD.shape H.V;have M:=H.V;rw[v]at M;obtain⟨rows,T,r2,r3⟩:=M.GO.BN;have C:=ae ((F9 w V e rows (by rw[T];exact z) hl r2).mono λe w' h=>fH.toX je K T r3 h);obtain⟨N,-,-⟩:=ag.aF H.blk;unfold om at N;rw[v, <-z]at N;generalize x.V=L at z R C ⊢;obtain⟨I,hI⟩:=aw (s.I w x0);rw[<-hI]at K C ⊢;obtain⟨HQ,HN⟩:=av R z;clear H M v T r2 r3 hI z R;go_enter func9,ntmps9;go_wp2_with fail;refine Y.mono ?_;rintro e w1 ⟨rfl,rfl⟩;go_wp2_with fail;refine C.mono ?_;rintro e w1 ⟨B,d,rfl,hd,ho,a⟩;obtain⟨HO,HB⟩:=av (Bv.start ho K a je) a;clear a ho C hd N Y;go_wp2;go_loopw[4,15] (λ_ i wr=>∃j:Nat,j<=m/\i=j/\Hid (Below w w wr)/\Hid (aD 80 3 Xw wr w (Bv I w (.slice B m d) wr) (.slice B m d) L)) (λ_ i _=>m-(intOf i).toNat);case atStart=>exact⟨0,aZ _,rfl,HB,HO⟩
 case round =>
  clear HB HO;obtain⟨j,hj,rfl,HB,HO⟩:=hrel;by_cases Q:j<m
  .have E:j<L.length:=by rw[<-HN.Y];exact Q
   obtain⟨g,d',v,(J:Hid _),f⟩:=aD.form HO (by rintro e;rw[e]at E;exact absurd E (Nat.not_lt_zero _));injection v with oq hv2 hv3
   subst oq hv3;clear hv2;obtain⟨y,D⟩:∃y,L[j]?=some y:=⟨_,cq E⟩
   obtain⟨r,⟨⟨Bq,dq⟩,rfl,X⟩,S,t⟩:=aD.at_ HO D;have O:=t 2 _ rfl;have f3:=λi=>aD.bq HO (i:=i);have l:=HQ.Y y (cH D);obtain⟨rj,HX,W⟩:=aS (J8 wr Bq y.ops.length dq y.ops rfl l.1 l.2 (λb a=>a.2.1) X.1) D f;clear S t D E X l;go_wp2_with fail;refine rj.mono ?_;rintro e w2 ⟨F,G,rfl,p,c⟩;obtain⟨Z,bB,gO⟩:=aS (aD.grow je HO c) (ah HB c) p;have U:Hid (w.heap.size<=wr.heap.size):=HB.size;have hg:=bW f c.size;have d2:=Below.cell c (bc O) |>.trans O
   clear c p O f3 HO HB f rj;have f3:=λi=>aD.bq Z (i:=i);go_wp2_with fail;have hP:=aD.part je Z HX 2 [.slice F y.ops.length G] (aR _) (by intro u hu;simp at hu;subst hu;rfl) (Bv.own _) (by
    rintro r _ ⟨⟨B9,d9⟩,rfl,_⟩;refine⟨⟨F,G⟩,rfl,(aD.mono jz (λb a=>?_) gO).GO,λad ha _=>?_⟩
    .exact⟨a.1.elim (λh=>h.1) λh=>.inr (bm U h),a.2.1,a.1.elim (λh=>h.2.2) λh e=>by injection e with e;have e:g=_:=e;have:=W.Y;omega⟩
    .subst ha;have P:=aD.lt gO rfl;exact⟨.inr (bm U P.1),P.2,λe=>by injection e with e;have e:g=_:=e;have:=W.Y;have:=P.1;omega⟩)
   obtain⟨j5,bU⟩:=av (hP.mono je (S':=Bv I w (.slice g m d) (ax w2 g (j*3+2) [.slice F y.ops.length G])) λb a=>⟨a.1,by rw[bO];exact a.2.1,a.2.2⟩) (az J [.slice F y.ops.length G] _ (j*3+2) bB);exact ZY
  .exact ZZ
theorem Rp(H:MS w x0 A n k q x s){m:Nat}(z:m=x.N.length)(hl:m<=1000000)(S:∀y∈x.N,y.aQ.cases.length<=1000000):Calls prog 19 #[.pointer (some ⟨x0,0,none⟩)] w λe w'=>∃B d,e=.returned (.slice B m d)/\aD 66 13 SB w' w (Bv (s.I w x0) w (.slice B m d) w') (.slice B m d) x.N/\Below w w w':=by
 have G:Hid (∀b,s.I w x0 b->b<w.heap.size):=λb c=>c.1;have X:=ae (rR H);obtain⟨V,e,o⟩:=aD.shape H.N;have J:=H.N;rw[o]at J;obtain⟨rows,U,r2,r3⟩:=J.GO.BN;have p:=ae ((Ga w V e rows (by rw[U];exact z) hl r2).mono λe w' h=>fH.toX fI G U r3 h);obtain⟨K,-,-⟩:=ag.aF H.blk;unfold om at K;rw[o, <-z]at K;generalize x.N=L at z S p ⊢;obtain⟨I,Z⟩:=aw (s.I w x0);rw[<-Z]at G p ⊢;obtain⟨HQ,HN⟩:=av S z;clear H J o U r2 r3 Z z S;go_enter func19,ntmps19;go_wp2_with fail;refine X.mono ?_;rintro e w1 ⟨rfl,rfl⟩;go_wp2_with fail;refine p.mono ?_;rintro e w1 ⟨B,d,rfl,hd,ho,c⟩;obtain⟨HO,HB⟩:=av (Bv.start ho G c fI) c;clear c ho p hd K X;go_wp2;go_loopw[4,15] (λ_ i wr=>∃j:Nat,j<=m/\i=j/\Hid (Below w w wr)/\Hid (aD 66 13 SB wr w (Bv I w (.slice B m d) wr) (.slice B m d) L)) (λ_ i _=>m-(intOf i).toNat);case atStart=>exact⟨0,aZ _,rfl,HB,HO⟩
 case round =>
  clear HB HO;obtain⟨j,hj,rfl,HB,HO⟩:=hrel;by_cases R:j<m
  .have C:j<L.length:=by rw[<-HN.Y];exact R
   obtain⟨g,d',o,nA,l⟩:=aD.form HO (by rintro e;rw[e]at C;exact absurd C (Nat.not_lt_zero _));injection o with oq hv2 hv3
   subst oq hv3;clear hv2;obtain⟨y,t⟩:∃y,L[j]?=some y:=⟨_,cq C⟩
   obtain⟨r,⟨⟨Bq,dq⟩,rfl,W⟩,T,f⟩:=aD.at_ HO t;have M:=f 4 _ rfl;have N:=f 5 _ rfl;have O:=f 6 _ rfl;have P:=f 7 _ rfl;have Q:=f 8 _ rfl;have f3:=λi=>aD.bq HO (i:=i);have v:=ae (jY wr y.aQ ⟨Bq,dq⟩ (HQ y (cH t)) W.1);unfold nS at v;dsimp only at v;obtain⟨HX,HG,F⟩:=aS t l nA;clear T f t C W;go_wp2_with fail;refine v.mono ?_;rintro e w2 ⟨⟨D,E⟩,rfl,(gO:Hid _),a⟩;obtain⟨Y,bB⟩:=av (aD.grow fI HO a) (ah HB a);have DC:Hid (w.heap.size<=wr.heap.size):=HB.size;have hg:=bW l a.size;have d4:=Below.cell a (bc M) |>.trans M
   have d5:=Below.cell a (bc N) |>.trans N
   have d6:=Below.cell a (bc O) |>.trans O
   have d7:=Below.cell a (bc P) |>.trans P
   have d8:=Below.cell a (bc Q) |>.trans Q
   clear a M N O P Q f3 HO HB nA l v;have f3:=λi=>aD.bq Y (i:=i);go_wp2_with fail;have hP:=aD.part fI Y HX 4 [y.aQ.kind,y.aQ.arg,y.aQ.value,y.aQ.dflt,.slice D y.aQ.cases.length E] (by show 4+5<=13;decide) (by intro u hu;simp at hu;rcases hu with rfl|rfl|rfl|rfl|rfl<;>rfl) (Bv.own _) (by
    rintro r _ ⟨⟨B9,d9⟩,rfl,_⟩;exact⟨⟨D,E⟩,rfl,gO.1.mono λb c=>⟨.inr (bm DC c.1),c.2,λe=>by injection e with e;have e:g=_:=e;have:=c.1;have:=HG.Y;omega⟩⟩)
   obtain⟨j5,bU⟩:=av (hP.mono fI (S':=Bv I w (.slice g m d) (ax w2 g (j*13+4) [y.aQ.kind,y.aQ.arg,y.aQ.value,y.aQ.dflt,.slice D y.aQ.cases.length E])) λb c=>⟨c.1,by rw[bO];exact c.2.1,c.2.2⟩) (az F [y.aQ.kind,y.aQ.arg,y.aQ.value,y.aQ.dflt,.slice D y.aQ.cases.length E] _ (j*13+4) bB);exact ZY
  .exact ZZ
end
def qg(V:List Tn):Nat:=(V.map λv=>v.ops.length).sum
theorem By{V:List Tn}(h:V[j]?=some y):qg (V.take (j+1))=qg (V.take j)+y.ops.length:=by unfold qg;rw[List.take_add_one,h];simp
theorem Bz:∀(V:List Tn) (j:Nat),qg (V.take j)<=qg V
 |[],_=>by simp[qg]
 |y::V,0=>aZ _
 |y::V,j+1=>by
  have:=Bz V j
  unfold qg at *
  simp only[List.take_succ_cons,List.map_cons,List.sum_cons]
  omega
def PmO(w:World)(S:Nat->Prop)(V:List Tn)(rows:List (Row 8))(j:Nat):Prop:=∀(i:Nat) (r:Row 8) (x:Mo.Op),rows[i]?=some r->((V.take j).flatMap (·.ops))[i]?=some x->FD w S r.val x
theorem PmO.add{S:Nat->Prop}{V:List Tn}{rows news:List (Row 8)}(h:PmO w S V rows j)(u:rows.length=qg (V.take j))(C:V[j]?=some y)(D:news.length=y.ops.length)(l:∀(i:Nat) (r:Row 8) (x:Mo.Op),news[i]?=some r->y.ops[i]?=some x->FD w S r.val x):PmO w S V (rows++news) (j+1):=by
 have d:(V.take (j+1)).flatMap (·.ops)=(V.take j).flatMap (·.ops)++y.ops:=by rw[List.take_add_one,C];simp
 have c:rows.length=((V.take j).flatMap (·.ops)).length:=by rw[u,List.length_flatMap];rfl
 intro i r x b a;rw[d]at a;by_cases e:i<rows.length
 .rw[List.getElem?_append_left e]at b;rw[List.getElem?_append_left (by omega)]at a;exact h i r x b a
 .rw[List.getElem?_append_right (by omega)]at b;rw[List.getElem?_append_right (by omega), <-c]at a;exact l _ r x b a
section
variable{S:Nat->Prop}{c m:Nat}{V:List Mo.Tn}
theorem CJ(hm:m=V.length)(Ky:m<=1000000)(hS:∀b,S b->b<w.heap.size)(ho:jv 3 Xw w S A V)(hq:qg V<=1000000000):Calls prog 8 #[.slice A m c] w λe w'=>∃B d,e=.returned (.slice B (qg V) d)/\jv 8 FD w' S B (V.flatMap (·.ops))/\Below w w w':=by
 obtain⟨U,HS,HO,HQ⟩:=bh hm hS ho hq;clear hm hS ho hq;go_enter func8,ntmps8;go_wp2;go_loopw[3,8] (λv i wr=>∃j:Nat,j<=m/\i=j/\∃(z:Value) (rows:List (Row 8)),v=z/\Hid (Below w w wr)/\Hid (aH wr w 40 8 dF z rows)/\Hid (rows.length=qg (V.take j))/\Hid (PmO w S V rows j)) (λ_ i _=>m-(intOf i).toNat);case atStart=>exact⟨0,aZ _,rfl,_,[],rfl,ai w,aH.nil _ _ _ _ _,rfl,λi r x h _=>by simp at h⟩
 case round =>
  obtain⟨j,hj,rfl,z,rows,rfl,k,u,s,F⟩:=hrel;by_cases M:j<m
  .obtain⟨ad,y,r,hA,hy,hP,_,f⟩:=jv.at_ (by decide) HO.Y (i:=j) (by rw[<-U.Y];exact M);obtain⟨⟨zA,zc⟩,rfl,o,-⟩:=hP;have O:w.cell? (ad.add (j*3))=_:=f 0 _ rfl;have P:=f 1 _ rfl;have Q:=f 2 _ rfl;have c0:=(Below.cell k.Y (bc O)).trans O;have W:=(Below.cell k.Y (bc P)).trans P;have C:=(Below.cell k.Y (bc Q)).trans Q;subst hA;rw[add_lit _ _ (by decide)]at W C;dsimp only at C;obtain⟨E,g⟩:∃E,E=wr.alloc (.cells (tnC y ⟨zA,zc⟩).toArray 80):=⟨_,rfl⟩
   have J:Hid (Below wr wr E):=by rw[g];exact aj (ai wr) _
   have D:Hid (ag E wr 80 (tnC y ⟨zA,zc⟩).toArray):=by rw[g];exact ag.new _ _ _
   obtain⟨p,I,Bu⟩:=aS g hy o;unfold tnC at p D;obtain⟨l,L⟩:∃l,l=y.ops.length:=⟨_,rfl⟩
   dsimp only at p D;rw[<-L]at C p D;have t:=ae L;clear g hy o f O P Q L;go_upto_region 5 with fail
   rw[<-p.Y];obtain⟨q,n⟩:=av (ah k.Y J.Y) (u.Y.ah J.Y);obtain⟨aT,-,iM⟩:=ag.aF D.Y;clear p c0 W C J k u;obtain⟨T,X,rfl⟩:=n.Y.shape;obtain⟨news,N,pG,sH⟩:=Bu.Y.BN;have R:=ae N;have jC:=ae (cN.below pG q.Y);have uo:rows.length+l<=1000000000:=by have:=By I.Y;have:=Bz V (j+1);have:=HQ.Y;have:=s.Y;have:=t.Y;omega
   have G:=ae (PmO.add F.Y s.Y I.Y N sH);have a:Hid ((rows++news).length=qg (V.take (j+1))):=by have:=By I.Y;have:=s.Y;unfold Hid;simp;omega
   clear N pG sH F;go_wp2_with(at_builtin;refine bR _ rfl _ _ 32 rfl w 40 8 80 (.agg #[.int .i64 0,.int .i64 0,.int .i64 0,.int .i64 0,.int .i64 0,.int .i64 0,.bool false,.slice none 0 0]) dF bY eU underlying32 nc rfl (by decide) _ rows rfl n.Y _ l _ news rfl (R.Y.trans t.Y.symm) jC.Y ?c4 ?c5 ?c6 ?_)
   case c4=>have:=R.Y;have:=t.Y;simp;omega
   case c5=>have:=R.Y;have:=t.Y;simp;omega
   case c6=>have:=q.Y.size;simp;omega
   rintro v' w' (H:Hid _) Z -;have O5:=ae (n.Y.aW q.Y Z q.Y.size (aR _));clear Z aT iM;go_wp2;go_roundw;case rel=>exact⟨j+1,by omega,by go_num,_,_,rfl,O5,H,a,G⟩
   case measure=>simp[intOf];omega
  .obtain⟨T,X,rfl⟩:=u.Y.shape;have a:Hid (rows.length=qg V/\V.take j=V):=by
    have Y:V.take j=V:=List.take_of_length_le (by have:=U.Y;omega);exact⟨s.Y.trans (by rw[Y]),Y⟩
   go_wp2;go_ret;have K:=F.Y;unfold PmO at K;rw[a.Y.2]at K;exact⟨T,X,by rw[a.Y.1];rfl,⟨rows,by rw[a.Y.1,List.length_flatMap];rfl,u.Y.xS.2,λi r x h h'=>jz.same (λb hb=>k.Y.block b (HS.Y b hb)) (K i r x h h')⟩,k.Y⟩
end
variable[OW]
theorem ag.tA{g:Nat}{t:TypeId}{cs:Array Value}(h:ag w g t cs)(e:wx.heap[g]?=w.heap[g]?):ag wx g t cs:=e.trans h
theorem oV{P:Program}{o:Oper}{K:Act->World->Prop}(r:o.guard=none)(s x:Operand)(t:TypeId)(J:o.op=.call {callee:=.builtin .append,args:=#[s,x],argTypes:=#[t,t]})(e:TypeId)(m bytes:Nat)(z:Value){d:ux α}(g:Good d)(N:P.underlying t=some (.slice e))(G:(P.info? e).map (λi=>(i.zero,i.size,i.bytes))=some (some z,m,bytes))(B:z.cells.size=m)(I:0<m){S:Nat->Prop}(v:Value)(l:List α)(M:a.eval s=v)(hown:aD e m d w 0 S v l)(C:∀b,S b->b<w.heap.size/\v.ownBlock≠some b)(A:Option Addr)(c:Nat)(vs:List Value)(H:vs.length=m)(D:∀u∈vs,u.oneCell'=true)(R:a.eval x=.slice A 1 c)(L:Rd w A vs){y:α}(T:d w S vs y)(f:(l.length+1)*bytes<=140737488355328)(F:l.length<=1000000)(h:∀v' w',aD e m d w' 0 S v' (l++[y])->w.grownBy w' v.ownBlock->(v'.ownBlock=v.ownBlock\/v'.ownBlock=some w.heap.size)->K (a.put o.dst v') w') :
 if Region.wanted o (yielded ops a.tmps)=true then Oper.wp P o a w K Q else E:=by
 obtain⟨rows,j,O,U⟩:=hown
 refine gf r s x t J 0 e m bytes z dF bY eU N G B I v rows M O A 1 c [⟨vs,H,D⟩] R rfl (by unfold cN;simpa[dF]using L) (by rw[j];exact f) (by rw[j];simp;omega) (aZ _) ?_
 intro v' w' p n q
 have k:Sm S w w':=λb f=>n.block b (C b f).1 λe=>(C b f).2 e.symm
 exact h v' w' (aD.app g j U k p (g.same k T)) n q
section
variable{q:Nat}
def zQ(d:Nat)(A:Option Addr)(n k q:Nat)(g:Mc)(w:World)(s:Sx)(f:World):Prop:=∃a,MS f d A n k q g a/\gV w f (s.U d) (a.U d)
theorem MS.adj(h:s.I w x0 b):b<w.heap.size/\s.N.ownBlock≠some b:=⟨h.1,λe=>h.2.2.1 (.inr (.inr (.inr (.inl e))))⟩
theorem MS.ab8(H:MS w x0 A n k q x s){y:Nt}(f:aD 66 13 SB w1 0 (s.I w x0) v' (x.N++[y]))(d:w.grownBy w1 s.N.ownBlock)(g:v'.ownBlock=s.N.ownBlock\/v'.ownBlock=some w.heap.size) :
 MS (w1.setCell ⟨x0,14,none⟩ v') x0 A n k q {x with N:=x.N++[y]} {s with N:=v'}/\gV w (w1.setCell ⟨x0,14,none⟩ v') (s.U x0) (Sx.U {s with N:=v'} x0):=by
 obtain⟨rows,h,c,i⟩:=H.N
 exact H.adh (aH.aW c (Below.refl 0 w) d (aZ _) (aR _)) (λb a hn=>d.block b a λe=>hn e.symm) f λb a=>g.elim (λe=>.inl (e▸a)) λe=>.inr (by rw[a]at e;injection e with e;omega)
theorem MS.task(H:MS w x0 A n k q x s){t:Nat}(f:t<x.T.length):∃g d z,s.T=.slice (some ⟨g,0,none⟩) x.T.length d/\g<w.heap.size/\s.X x0 g/\oh w (s.I w x0) (cC x t) z/\(∀i v,(jA (cC x t) z)[i]?=some v->w.cell? ⟨g,t*34+i,none⟩=some v)/\∀i,w.frozen? ⟨g,i,none⟩=false:=by obtain⟨g,d,b,_,j⟩:=aD.form H.T (by rintro e;rw[e]at f;exact absurd f (Nat.not_lt_zero _));have a:=H.T;rw[b]at a;obtain⟨r,c,m,h⟩:=aD.at_ a (DA f);obtain⟨z,rfl,l⟩:=c;exact⟨g,d,z,b,j,.inr (.inl (by rw[b];rfl)),l,h,λi=>aD.bq a i⟩
def Xx(f:World)(y:Nt)(h:Value)(d:World):Prop:=∃g z,h=.pointer (some ⟨g,0,none⟩)/\f.heap.size<=g/\ag d g 66 (zh y z).toArray/\eo d (λb=>f.heap.size<=b/\b<d.heap.size/\b≠g) bj z.A y.aQ.cases/\Ext f d
theorem J9(H:MS w x0 A n k q x s)(D:Int)(t:Nat)(ht:t<x.T.length)(r:Rs)(hq:(cC x t).aQ.cases.length<=1000000)(hN:x.N.length<=1000000):Calls prog 70 #[.pointer x0,D,t,.agg #[r.seq,r.cs,r.code,r.value]] w λe w'=>e=.returned (.tuple #[])/\zQ x0 A n k q {x with N:=x.N++[⟨D,t,(cC x t).seq,x.time,(cC x t).aQ,if D=1 then cE else r⟩]} w s w':=by
 obtain⟨g,d,z,hv,hg,Z,hz,Q,_⟩:=H.task ht;have rj:=ae (λf (m:Below w w f)=>jY f (cC x t).aQ z.cs hq (hz.cs.1.below m));generalize cC x t=K at rj Q ⊢;obtain⟨yy,aq⟩:∃yy:Nt,yy=⟨D,t,K.seq,x.time,K.aQ,if D=1 then cE else r⟩:=⟨_,rfl⟩
 rw[<-aq];have bz:=ae aq;clear aq;have h1:=Q 1 _ rfl;have h2:=Q 2 _ rfl;have h3:=Q 3 _ rfl;have h4:=Q 4 _ rfl;have h5:=Q 5 _ rfl;have h6:=Q 6 _ rfl;unfold nS at rj;generalize x.T.length=j at hv ht;have G:Hid (Below w w (w.alloc (qh r.seq r.cs r.code r.value))):=aj (ai w) _;have ik:Hid (ag (w.alloc (qh r.seq r.cs r.code r.value)) w 64 #[r.seq,r.cs,r.code,r.value]):=ag.new _ _ _;obtain⟨U,HX⟩:=av (λ(f:World) (m:Below w w f) (a:Addr) (v:Value) (h:w.cell? a=some v)=>(Below.cell m (bc h)).trans h) (λ(f:World) (m:Below w w f)=>H.more m);have HL:Hid (w.heap.size<(w.alloc (qh r.seq r.cs r.code r.value)).heap.size):=by unfold Hid;simp
 obtain⟨HV,Xj⟩:=av hv hN;clear Q Z hz hN H hq;go_enter func70,ntmps70;go_wp2_with fail;generalize w.alloc (qh r.seq r.cs r.code r.value)=u at *;have aT:=λf (E:Ext u f) i=>ag.cell (HX f (ah G E.Y)).blk i;unfold om at aT;rw[HV.Y]at aT;have X:=ae (λf (E:Ext u f)=>rj f (ah G E.Y));have a1:=λf (E:Ext u f)=>U f (ah G E.Y) _ _ h1;have a2:=λf (E:Ext u f)=>U f (ah G E.Y) _ _ h2;have a3:=λf (E:Ext u f)=>U f (ah G E.Y) _ _ h3;have a4:=λf (E:Ext u f)=>U f (ah G E.Y) _ _ h4;have a5:=λf (E:Ext u f)=>U f (ah G E.Y) _ _ h5;have a6:=λf (E:Ext u f)=>U f (ah G E.Y) _ _ h6;clear h1 h2 h3 h4 h5 h6 U;go_cut[8] (λs8 f=>Xx u ⟨D,t,K.seq,x.time,K.aQ,cE⟩ s8 f);case first =>
  refine wp_region_held_drew (S:=(Ext u)) (by kernel_rfl) (Ext.start _) (λc=>?_);refine aU 0 c ?_;refine aU 1 c ?_;refine aU 2 c ?_;refine aU 3 c ?_;refine aU 4 c ?_;refine aU 5 c ?_;refine aU 6 c ?_;refine aU 7 c ?_;refine aU 8 c ?_;refine aU 9 c ?_;refine aU 10 c ?_;refine aU 11 c ?_;refine aU 12 c ?_;refine aU 13 c ?_;refine aU 14 c ?_;refine aU 15 c ?_;refine aU 16 c ?_;refine aU 17 c ?_;refine aU 18 c ?_;refine aU 19 c ?_;refine aU 20 c ?_;refine aU 21 c ?_;(try simp only[aL]);refine wpAnyH_ready (rs:=[22,24]) (by kernel_rfl) aA ?_;refine(AllReadyH.cons (o:=⟨some 31,_,_,_,_,_⟩) rfl (λK l=>?_) (AllReadyH.cons (o:=⟨some 8,_,_,_,_,_⟩) rfl (λK l=>?_) AllReadyH.nil));go_simp;((with_reducible go_fit (X.Y _ aN));rintro e J ⟨⟨p,B⟩,rfl,ho,I⟩;have xx:Ext u J:=Ext.to aN I;(try have P:=(ag.jd (ag.new u _ _)).ah I);(try have uo:=λi=>ag.cell P i);(try have O:=λi=>ag.free P i);(try have zF:=P.lt));go_wp2_with fail;refine l.Y _ _ (zI) (λc=>?_);clear l K;(try simp only[aL]);refine aU 23 c ?_;(try simp only[aL]);refine eQ 24 (λK l=>?_);go_simp;refine l.Y _ _ (zI) (λc=>?_);clear l K;(try simp only[aL]);refine eQ 25 (λK l=>?_);go_simp;refine l.Y _ _ (zI) (λc=>?_);clear l K;(try simp only[aL]);refine wpAnyH_done (by kernel_rfl) ?_ _;rotate_left;go_simp;refine l.Y _ _ (zI) (λc=>?_);clear l K;(try simp only[aL]);refine eQ 22 (λK l=>?_);go_simp;((with_reducible go_fit (X.Y _ aN));rintro e J ⟨⟨p,B⟩,rfl,ho,I⟩;have xx:Ext u J:=Ext.to aN I;(try have P:=(ag.jd (ag.new u _ _)).ah I);(try have uo:=λi=>ag.cell P i);(try have O:=λi=>ag.free P i);(try have zF:=P.lt));go_wp2_with fail;refine l.Y _ _ (zI) (λc=>?_);clear l K;(try simp only[aL]);refine aU 23 c ?_;(try simp only[aL]);refine eQ 25 (λK l=>?_);go_simp;refine l.Y _ _ (zI) (λc=>?_);clear l K;(try simp only[aL]);refine wpAnyH_done (by kernel_rfl) ?_ _;rotate_left
  .go_wp2;go_meet;have zz:ag (J.alloc (.cells (zh ⟨D,t,K.seq,x.time,K.aQ,cE⟩ ⟨p,B⟩).toArray 66)) J 66 (zh ⟨D,t,K.seq,x.time,K.aQ,cE⟩ ⟨p,B⟩).toArray:=ag.new _ _ _;exact⟨_,⟨p,B⟩,rfl,xx.Y.size,zz,(ho.1.same λb m=>(aj (ai J) _).block b m.2).mono λb m=>⟨m.1,by simp;omega,by have:=m.2;omega⟩,Ext.alloc xx _⟩
  .clear uo O zF;go_wp2_with fail;have hQ:=aY (vs:=[D,t,K.seq,x.time,K.aQ.kind,K.aQ.arg,K.aQ.value,K.aQ.dflt,.slice p K.aQ.cases.length B,oZ,oZ,oZ,oZ]) (cs:=[oZ,oZ,oZ,oZ,oZ,oZ,oZ,false,oN,oZ,oZ,oZ,oZ]) P rfl;have xq:Ext u (ax J u 0 [D,t,K.seq,x.time,K.aQ.kind,K.aQ.arg,K.aQ.value,K.aQ.dflt,.slice p K.aQ.cases.length B,oZ,oZ,oZ,oZ]):=az (aR _) _ _ _ xx.Y;have LR:eo (ax J u 0 [D,t,K.seq,x.time,K.aQ.kind,K.aQ.arg,K.aQ.value,K.aQ.dflt,.slice p K.aQ.cases.length B,oZ,oZ,oZ,oZ]) (λb=>u.heap.size<=b/\b<(ax J u 0 [D,t,K.seq,x.time,K.aQ.kind,K.aQ.arg,K.aQ.value,K.aQ.dflt,.slice p K.aQ.cases.length B,oZ,oZ,oZ,oZ]).heap.size/\b≠u.heap.size) bj p K.aQ.cases:=(ho.1.same λb m=>aM (by have:=m.1;simp at this;omega) _ 0).mono λb m=>⟨by have:=m.1;simp at this;omega,by rw[bO];exact m.2,by have:=m.1;simp at this;omega⟩
   change Met _ _ (ax J u 0 [D,t,K.seq,x.time,K.aQ.kind,K.aQ.arg,K.aQ.value,K.aQ.dflt,.slice p K.aQ.cases.length B,oZ,oZ,oZ,oZ]);generalize ax J u 0 [D,t,K.seq,x.time,K.aQ.kind,K.aQ.arg,K.aQ.value,K.aQ.dflt,.slice p K.aQ.cases.length B,oZ,oZ,oZ,oZ]=w5 at *;go_meet;exact⟨_,⟨p,B⟩,rfl,aR _,hQ,LR,xq⟩
 case rest =>
  obtain⟨C,⟨p,B⟩,rfl,zF,F,Y,N⟩:=hcut;clear a1 a2 a3 a4 a5 a6 aT X rj HV hv;have b5:=ik.ah N.Y;have ct:=HL.Y;have uo:=λi=>ag.cell F i;have O:=λi=>ag.free F i;have Gl:=F.lt;obtain⟨gB,-,b7⟩:=ag.aF b5;unfold zh at uo;by_cases hk:D=1;case' pos =>
   have bE:(D !=1)=false:=by rw[hk];rfl
   have M:=ae hk;clear hk;go_upto_region 4 with fail
   obtain⟨W,L⟩:=aw wc;rw[<-L];obtain⟨y,R⟩:∃y:Nt,y=⟨D,t,K.seq,x.time,K.aQ,cE⟩:=⟨_,rfl⟩
   have T:Hid (ag W C 66 (zh y ⟨p,B⟩).toArray):=by rw[L,R];exact F
   have a8:Hid (y=yy):=by unfold Hid;rw[bz.Y,ay M.Y,R]
   have a7:Hid (eo W (λb=>u.heap.size<=b/\b<W.heap.size/\b≠C) bj p y.aQ.cases):=by rw[L,R];exact Y
   have ZP:Hid (Ext u W):=by rw[L];exact N
  case' neg =>
   have bE:(D !=1)=true:=by simpa using hk
   have M:=ae hk;clear hk;go_upto_region 4 with fail
   change Code.wp _ _ _ _ (ax wc C 9 [r.seq,r.cs,r.code,r.value]);obtain⟨W,L⟩:=aw (ax wc C 9 [r.seq,r.cs,r.code,r.value]);rw[<-L];obtain⟨y,R⟩:∃y:Nt,y=⟨D,t,K.seq,x.time,K.aQ,r⟩:=⟨_,rfl⟩
   have T:Hid (ag W C 66 (zh y ⟨p,B⟩).toArray):=by rw[L,R];exact(((F.bp 9 _).bp 10 _).bp 11 _).bp 12 _
   have a8:Hid (y=yy):=by unfold Hid;rw[bz.Y,au M.Y,R]
   have a7:Hid (eo W (λb=>u.heap.size<=b/\b<W.heap.size/\b≠C) bj p y.aQ.cases):=by rw[L,R];exact(Y.same λb m=>aM m.2.2 _ 9).mono λb m=>⟨m.1,by rw[bO];exact m.2.1,m.2.2⟩
   have ZP:Hid (Ext u W):=by rw[L];exact az zF _ _ _ N
  all_goals
   clear uo O Gl gB b7 b5 bE F Y N L R M;have zO:C<W.heap.size:=T.lt;have BA:Hid (MS (W.drew.alloc (.cells #[y.kind,y.th,y.seq,y.time,y.aQ.kind,y.aQ.arg,y.aQ.value,y.aQ.dflt,.slice p y.aQ.cases.length B,y.res.seq,y.res.cs,y.res.code,y.res.value] 66)) x0 A n k q x s):=HX.Y _ (aj (ah G ZP) _).drew;have V:=HX.Y _ (ah G ZP).drew;have b8:W.drew.cell? ⟨x0,14,none⟩=some s.N:=V.blk.cell 14;have cz:(W.drew.alloc (.cells #[y.kind,y.th,y.seq,y.time,y.aQ.kind,y.aQ.arg,y.aQ.value,y.aQ.dflt,.slice p y.aQ.cases.length B,y.res.seq,y.res.cs,y.res.code,y.res.value] 66)).cell? ⟨x0,14,none⟩=some s.N:=BA.blk.cell 14;have cy:W.cell? ⟨x0,14,none⟩=some s.N:=b8;have cw:x0<W.heap.size:=V.blk.lt;have HU:Hid (∀b,s.U x0 b->b<w.heap.size):=λb m=>(HX w (ai w)).ul m;have Z2:Hid (∀b,OW.O b->b<w.heap.size):=λb m=>((HX w (ai w)).ol b m).1;have Z:C≠x0:=by have:=HU.Y x0 (.inl (.inl rfl));omega
   have Am:Hid (∀b,w.heap.size<b->some b≠s.N.ownBlock):=λb m e=>by have:=HU.Y b (.inl (.inr (.inr (.inr (.inl e.symm)))));omega
   have MG:Hid (eo (W.drew.alloc (.cells #[y.kind,y.th,y.seq,y.time,y.aQ.kind,y.aQ.arg,y.aQ.value,y.aQ.dflt,.slice p y.aQ.cases.length B,y.res.seq,y.res.cs,y.res.code,y.res.value] 66)) (s.I (W.drew.alloc (.cells #[y.kind,y.th,y.seq,y.time,y.aQ.kind,y.aQ.arg,y.aQ.value,y.aQ.dflt,.slice p y.aQ.cases.length B,y.res.seq,y.res.cs,y.res.code,y.res.value] 66)) x0) bj p y.aQ.cases):=(a7.same λb m=>(aj (ai W) _).drew.block b m.2.1).mono λb m=>⟨by simp;omega,λe=>by have:=HU.Y b (.inr e);omega,λe=>by have:=HU.Y b (.inl e);omega,λe=>by have:=Z2.Y b e;omega⟩
   have qa:Hid (Rd (W.drew.alloc (.cells #[y.kind,y.th,y.seq,y.time,y.aQ.kind,y.aQ.arg,y.aQ.value,y.aQ.dflt,.slice p y.aQ.cases.length B,y.res.seq,y.res.cs,y.res.code,y.res.value] 66)) W (zh y ⟨p,B⟩)):=Rd.lit W (zh y ⟨p,B⟩) 66;have uo:=λ(f:World) (E:f.heap[C]?=W.heap[C]?) i=>ag.cell (ag.tA T E) i;unfold zh at uo;clear V;refine wp_region_held_drew (S:=λf:World=>f.heap[C]?=W.heap[C]?) (by kernel_rfl) rfl (λc=>?_);refine aU 0 c ?_;refine aU 1 c ?_;refine aU 2 c ?_;refine aU 3 c ?_;refine aU 5 c ?_;(try simp only[aL]);refine wpAnyH_ready (rs:=[4,6]) (by kernel_rfl) aA ?_;refine(AllReadyH.cons (o:=⟨some 41,_,_,_,_,_⟩) rfl (λK l=>?_) (AllReadyH.cons (o:=⟨some 43,_,_,_,_,_⟩) rfl (λK l=>?_) AllReadyH.nil));go_simp;refine l.Y _ _ (by first|assumption|exact(aj (ai W) _).drew.block C zO) (λc=>?_);clear l K;(try simp only[aL]);refine eQ 6 (λK l=>?_);go_simp;refine l.Y _ _ (by first|assumption|exact(aj (ai W) _).drew.block C zO) (λc=>?_);clear l K;(try simp only[aL]);rotate_left;go_simp;refine l.Y _ _ (by first|assumption|exact(aj (ai W) _).drew.block C zO) (λc=>?_);clear l K;(try simp only[aL]);refine eQ 4 (λK l=>?_);go_simp;refine l.Y _ _ (by first|assumption|exact(aj (ai W) _).drew.block C zO) (λc=>?_);clear l K;(try simp only[aL]);all_goals
    refine eQ 7 (λK l=>?_);refine oV rfl _ _ 61 rfl 66 13 120 _ fI underlying61 py rfl af _ x.N rfl BA.N (λb h=>MS.adj h) _ _ (zh y ⟨p,B⟩) rfl (List.all_eq_true.1 (by rfl)) rfl qa ⟨⟨p,B⟩,rfl,MG⟩ (by have:=Xj.Y;omega) Xj ?_;intro v5 w5 lh pL dJ;obtain⟨B5,d5,vh⟩:=aD.shape lh;generalize(x.N++[y]).length=l5 at vh;subst vh;have zJ:w5.heap[C]?=W.heap[C]?:=(pL.block C (by simp;omega) (Am C aa)).trans ((aj (ai W) _).drew.block C zO);have sJ:ag w5 x0 86 (om A n k x s):=(pL.block x0 BA.blk.lt λe=>BA.b9.2.2.1 x0 e.symm rfl).trans BA.blk;obtain⟨IE,cv,FC⟩:=ag.aF sJ;unfold om at IE;obtain⟨pR,b6,iq⟩:=aS lh pL dJ;clear lh pL dJ sJ;refine l.Y _ _ (by first|exact zJ) (λc=>?_);clear l K;(try simp only[aL]);refine aU 8 c ?_;refine aU 9 c ?_;(try simp only[aL]);refine eQ 10 (λK l=>?_);go_simp;refine l.Y _ _ ((dE w5 ⟨x0,14,none⟩ _ C Z).trans zJ) (λc=>?_);clear l K;(try simp only[aL]);refine wpAnyH_done (by kernel_rfl) ?_ _;clear c;go_wp2;go_end0;obtain⟨hM,hF⟩:=MS.ab8 BA pR b6 iq;refine⟨rfl,_,?_,gV.trans (gV.ext (aj (ah G ZP) _).drew (s.U x0)) hF⟩;rw[<-a8.Y];exact hM
end
variable[OW]
theorem ldT{S:World->Prop}{f:Region.Mode}(i:Nat){d:Tmp}{x:Operand}{g l q r}{fuel:Nat}{listed:Array Bool}(B:S w)(b o:Nat)(T:List Value)(C:T.length=34)(G:∀wx,S wx->wx.rangeAt b o T)(h:wpAnyH prog f ops Q S fuel (listed.setIfInBounds i true) (a.put (some d) (.agg T.toArray)) w)(F:ops[i]?=some ⟨some d,.load 75 x,g,l,q,r⟩:=by rfl)(I:a.eval x=.pointer (some ⟨b,o,none⟩):=by rfl)(D:(Region.noSelect ops && (Region.free f ops listed i && (Region.ready f ops listed).contains i))=true:=by kernel_rfl)(H:Region.wanted ⟨some d,.load 75 x,g,l,q,r⟩ (yielded ops a.tmps)=true:=by rfl)(u:∀c a w,Q (.panic c) (a.put (some d) (.agg T.toArray)) w->Q (.panic c) a w:=by exactλ_ _ _ h=>h):wpAnyH prog f ops Q S (fuel+1) listed a w:=tkH F D H u B (λwx e=>si 75 _ rfl b o I T _ (G wx e) underlying75 rfl (by rw[C];rfl)) h
theorem stT{K:Act->World->Prop}{o:Oper}{x y:Operand}(b i:Nat)(T:List Value)(d:T.length=34)(f:T.toArray.all (·.oneCell')=true)(q:w.there b i 34)(h:K (a.put o.dst undef) (ax w b i T))(g:o.guard=none:=by rfl)(l:o.op=.store 75 x y:=by rfl)(r:a.eval x=.pointer (some ⟨b,i,none⟩):=by rfl)(u:a.eval y=.agg T.toArray:=by rfl):if Region.wanted o (yielded ops a.tmps)=true then Oper.wp prog o a w K Q else E:=by
 have c:Region.wanted o (yielded ops a.tmps)=true:=by simp[Region.wanted,g]
 rw[ay c]
 refine wp_store_mid 75 x y l b i T.toArray r u (by rw[kC,d];exact q) (by rw[kC,d];rfl) f ?_
 rw[jQ]
 exact h
theorem oh.begun{S:Nat->Prop}{x:Tk}{s:Sh}(h:oh w S x s){g f d:Int}{q:Rq}{z:Sl}(hq:eo w S bj z.A q.cases):oh w S {jc g f q x.aJ cE false with round:=d} (Sz z s):=⟨hq,dL.nil _ _ _ _,dL.nil _ _ _ _,dL.nil _ _ _ _,rN.nil _ _ _,dL.nil _ _ _ _,h.fr,h.ol,aZ _,aZ _,aZ _,aZ _,h.lr,h.lo⟩
def ab9(f:World)(c:dG)(K:Tk)(z:Sh)(Q:Rq)(h l:Value)(d:World):Prop:=∃g z' a,h=.pointer (some ⟨g,0,none⟩)/\l=.int .i64 (fQ c K Q).2/\f.heap.size<=g/\ag d g 75 a.toArray/\a=jA (fQ c K Q).1 (if(fQ c K Q).2=0 then Sz z' z else z)/\eo d (λb=>f.heap.size<=b/\b<d.heap.size) bj z'.A Q.cases/\Ext f d
section
variable{q:Nat}
theorem Fc(H:MS w x0 A n k q x s)(t:Nat)(ht:t<x.T.length)(J0:x.S.length=x.T.length)(Q:Rq)(zq:Sl)(hq:cN w bj zq.A Q.cases)(hl:Q.cases.length<=1000000)(h0:0<=(cC x t).seq)(B:(cC x t).seq<=1048575)(hN:x.N.length<=1000000) :
 Calls prog 73 #[.pointer (some ⟨x0,0,none⟩),.int .i64 t,.agg (nS Q zq).toArray] w λe w'=>e=.returned (.int .i64 (eu x t Q).2)/\zQ x0 A n k q (eu x t Q).1 w s w':=by
 obtain⟨Y,dT,z,P,cR,c0,hz,hc,cG⟩:=H.task ht
 obtain⟨K,d⟩:=aw (cC x t)
 have a6:=ae d
 rw[<-d]at hz hc h0 B
 obtain⟨l,mn⟩:=aw (w.alloc (lQ Q zq.A Q.cases.length zq.c))
 have X:Hid (Below w w l):=by rw[mn];exact aj (ai w) _
 have ik:Hid (ag l w 38 (nS Q zq).toArray):=by rw[mn];exact ag.new _ _ _
 have tz:Hid (w.heap.size<l.heap.size):=by unfold Hid;rw[mn];simp
 obtain⟨HX,rj⟩:=av (λ(g:World) (m:Below w w g)=>H.more m) (λg (F:Ext l g)=>jY g Q zq hl (hq.below (ah X F.Y)))
 obtain⟨T0,yA⟩:=aw (jA K z)
 have a7:Hid (T0.length=34):=by rw[yA];rfl
 have U:=ae (λg (z':Sl) (F:Ext l g) (h:cN g bj z'.A Q.cases)=>(M4 (w:=g) (c:=x.c) (A:=A) (n:=n) (k:=k) K z Q z' h hl h0 B).mono (λe w' h=>(⟨(jA (fQ x.c K Q).1 (if(fQ x.c K Q).2=0 then Sz z' z else z)),h.1,rfl,h.2⟩:∃f:List Value,e=.returned (.tuple #[.agg f.toArray,.int .i64 (fQ x.c K Q).2])/\f=jA (fQ x.c K Q).1 (if(fQ x.c K Q).2=0 then Sz z' z else z)/\Below g g w')))
 have SC:Hid (∀g:World,Ext l g->g.rangeAt Y (t*34) T0):=λg F j v P=>(Below.cell (ah X F.Y) (by rw[yA]at P;exact bc (hc j v P))).trans (hc j v (by rw[<-yA];exact P))
 rw[<-yA]at U
 unfold nS j8 at U
 unfold nS at rj
 (try dsimp only at U rj)
 obtain⟨er,Rt⟩:=aw ((fQ x.c K Q).2)
 obtain⟨M,lW,HH,HZ,HV,HT⟩:=cS Rt mn H hz P ht
 obtain⟨b7,Xj,b6⟩:=aS J0 hN hl
 obtain⟨j,hj⟩:=aw x.T.length
 have aq:=ik.Y
 unfold nS at aq
 have W:=λg (F:Ext l g) i=>ag.cell (HX g (ah X F.Y)).blk i
 unfold om at W
 rw[P, <-hj]at W
 rw[<-hj]at ht
 have gB:=λg (F:Ext l g) i=>ag.cell (aq.ah F.Y) i
 unfold nS
 rw[<-Rt]at U
 clear d mn hc hz P H hq hl h0 B hN J0 yA Rt hj c0 aq
 go_enter func73,ntmps73
 go_wp2_with fail
 rw[<-lW.Y]
 clear lW
 go_cut[7,8] (λs7 s8 g=>ab9 l x.c K z Q s7 s8 g)
 case first =>
  refine wp_region_held_drew (S:=(Ext l)) (by kernel_rfl) (Ext.start _) (λa=>?_);refine aU 0 a ?_;refine aU 1 a ?_;refine aU 2 a ?_;refine aU 3 a ?_;refine aU 4 a ?_;refine aU 5 a ?_;refine aU 6 a ?_;refine aU 7 a ?_;refine aU 8 a ?_;refine aU 9 a ?_;(try simp only[aL]);refine ldT 10 a Y (t*34) T0 a7 SC ?_;refine aU 11 a ?_;(try simp only[aL]);refine wpAnyH_ready (rs:=[12,17]) (by kernel_rfl) aA ?_;refine(AllReadyH.cons (o:=⟨some 22,_,_,_,_,_⟩) rfl (λK d=>?_) (AllReadyH.cons (o:=⟨some 7,_,_,_,_,_⟩) rfl (λK d=>?_) AllReadyH.nil))
  .go_simp;((with_reducible go_fit (rj.Y _ aN));rintro e I ⟨⟨C,L⟩,rfl,N,cD⟩;have mg:Ext l I:=Ext.to aN cD);go_wp2_with fail;refine d.Y _ _ zI (λa=>?_);clear d K;(try simp only[aL]);refine wpAnyH_ready (rs:=[13,17]) (by kernel_rfl) aA ?_;refine(AllReadyH.cons (o:=⟨some 23,_,_,_,_,_⟩) rfl (λK d=>?_) (AllReadyH.cons (o:=⟨some 7,_,_,_,_,_⟩) rfl (λK d=>?_) AllReadyH.nil))
   .go_simp;((with_reducible go_fit (U.Y _ ⟨C,L⟩ aN ?hq));(case hq=>first|exact N.1.1|exact N.1.1.below (aj (ai _) _));rintro e p ⟨f,rfl,G,u⟩;have r:=ae G;clear G;have nE:Ext l p:=Ext.to aN u);go_wp2_with fail;refine d.Y _ _ zI (λa=>?_);clear d K;(try simp only[aL]);refine aU 14 a ?_;refine aU 15 a ?_;refine aU 16 a ?_;(try simp only[aL]);refine eQ 17 (λK d=>?_);go_simp;refine d.Y _ _ zI (λa=>?_);clear d K;(try simp only[aL]);have R:ag (p.alloc (.cells zT.toArray 75)) p 75 zT.toArray:=ag.new _ _ _;refine eQ 18 (λK d=>?_);refine stT p 0 f (by rw[r.Y];rfl) (by rw[r.Y];exact gR _ _) (ag.there R 0 34 af) ?_;have E:Ext l (ax (p.alloc (.cells zT.toArray 75)) p 0 f):=az nE.Y.size _ _ _ (Ext.alloc nE _);have J:=aY (vs:=f) (cs:=zT) R (by rw[r.Y];rfl);have T:eo (ax (p.alloc (.cells zT.toArray 75)) p 0 f) (λb=>l.heap.size<=b/\b<(ax (p.alloc (.cells zT.toArray 75)) p 0 f).heap.size) bj C Q.cases:=(N.1.same λb m=>(aM (by have:=m.2;have:=u.size;omega) _ 0).trans (((aj (ai p) _).block b (by have:=m.2;have:=u.size;omega)).trans (u.block b m.2))).mono λb m=>⟨m.1,by rw[bO];have:=m.2;have:=u.size;simp;omega⟩
    refine d.Y _ _ E (λa=>?_);clear d K;(try simp only[aL]);refine aU 19 a ?_;(try simp only[aL]);refine wpAnyH_done (by kernel_rfl) ?_ _;clear a;skip;go_wp2;go_meet;exact⟨p,⟨C,L⟩,f,rfl,by rw[M.Y],nE.Y.size,J,by rw[<-M.Y];exact r.Y,T,E⟩
   .go_simp;refine d.Y _ _ zI (λa=>?_);clear d K;(try simp only[aL]);refine eQ 13 (λK d=>?_);go_simp;((with_reducible go_fit (U.Y _ ⟨C,L⟩ aN ?hq));(case hq=>first|exact N.1.1|exact N.1.1.below (aj (ai _) _));rintro e p ⟨f,rfl,G,u⟩;have r:=ae G;clear G;have nE:Ext l p:=Ext.to aN u);go_wp2_with fail;refine d.Y _ _ zI (λa=>?_);clear d K;(try simp only[aL]);refine aU 14 a ?_;refine aU 15 a ?_;refine aU 16 a ?_;(try simp only[aL]);have R:ag p I 75 zT.toArray:=(ag.new I _ _).ah u;refine eQ 18 (λK d=>?_);refine stT I 0 f (by rw[r.Y];rfl) (by rw[r.Y];exact gR _ _) (ag.there R 0 34 af) ?_;have E:Ext l (ax p I 0 f):=az mg.Y.size _ _ _ nE;have J:=aY (vs:=f) (cs:=zT) R (by rw[r.Y];rfl);have T:eo (ax p I 0 f) (λb=>l.heap.size<=b/\b<(ax p I 0 f).heap.size) bj C Q.cases:=(N.1.same λb m=>(aM (by have:=m.2;omega) _ 0).trans ((u.block b (by have:=m.2;simp;omega)).trans ((aj (ai I) _).block b m.2))).mono λb m=>⟨m.1,by rw[bO];have:=m.2;have:=u.size;simp at this;omega⟩
    refine d.Y _ _ E (λa=>?_);clear d K;(try simp only[aL]);refine aU 19 a ?_;(try simp only[aL]);refine wpAnyH_done (by kernel_rfl) ?_ _;clear a;generalize ax p I 0 f=w5 at *;go_wp2;go_meet;exact⟨I,⟨C,L⟩,f,rfl,by rw[M.Y],mg.Y.size,J,by rw[<-M.Y];exact r.Y,T,E⟩
  .go_simp;refine d.Y _ _ zI (λa=>?_);clear d K;(try simp only[aL]);refine eQ 12 (λK d=>?_);go_simp;((with_reducible go_fit (rj.Y _ aN));rintro e I ⟨⟨C,L⟩,rfl,N,cD⟩;have mg:Ext l I:=Ext.to aN cD);go_wp2_with fail;refine d.Y _ _ zI (λa=>?_);clear d K;(try simp only[aL]);refine eQ 13 (λK d=>?_);go_simp;((with_reducible go_fit (U.Y _ ⟨C,L⟩ aN ?hq));(case hq=>first|exact N.1.1|exact N.1.1.below (aj (ai _) _));rintro e p ⟨f,rfl,G,u⟩;have r:=ae G;clear G;have nE:Ext l p:=Ext.to aN u);go_wp2_with fail;refine d.Y _ _ zI (λa=>?_);clear d K;(try simp only[aL]);refine aU 14 a ?_;refine aU 15 a ?_;refine aU 16 a ?_;(try simp only[aL]);have R:ag p l 75 zT.toArray:=((ag.jd (ag.new l _ _)).ah cD).ah u;refine eQ 18 (λK d=>?_);refine stT l 0 f (by rw[r.Y];rfl) (by rw[r.Y];exact gR _ _) (ag.there R 0 34 af) ?_;have E:Ext l (ax p l 0 f):=az (aR _) _ _ _ nE;have J:=aY (vs:=f) (cs:=zT) R (by rw[r.Y];rfl);have T:eo (ax p l 0 f) (λb=>l.heap.size<=b/\b<(ax p l 0 f).heap.size) bj C Q.cases:=(N.1.same λb m=>(aM (by have:=m.1;simp at this;omega) _ 0).trans (u.block b m.2)).mono λb m=>⟨by have:=m.1;simp at this;omega,by rw[bO];have:=m.2;have:=u.size;omega⟩
   refine d.Y _ _ E (λa=>?_);clear d K;(try simp only[aL]);refine aU 19 a ?_;(try simp only[aL]);refine wpAnyH_done (by kernel_rfl) ?_ _;clear a;generalize ax p l 0 f=w5 at *;go_wp2;go_meet;exact⟨l,⟨C,L⟩,f,rfl,by rw[M.Y],(aR _),J,by rw[<-M.Y];exact r.Y,T,E⟩
 case rest =>
  obtain⟨O,⟨C,L⟩,f,rfl,bE,Xc,(zE:Hid _),G,T,E⟩:=hcut;rw[<-M.Y]at bE G;subst bE;clear W gB rj U SC a7;obtain⟨Cm,r,Ai,b5,V⟩:=bQ E G T Xc (HX wc (ah X E.Y));clear E G T Xc;by_cases he:er=0;rotate_left
  .have HE:=ae he;have d1:(er !=0)=true:=by simpa using he
   clear he;go_wp2;go_ret;have hM:eu x t Q=(x,er):=by unfold eu;dsimp only;rw[<-a6.Y, <-M.Y,ay HE.Y]
   rw[hM];exact⟨rfl,s,V,gV.ext (ah X Cm.Y) _⟩
  have HE:=ae he;have d1:(er !=0)=false:=by rw[he];rfl
  obtain⟨y,hy⟩:=aw ((fQ x.c K Q).1);have HY:Hid (y={jc 1 (K.seq+1) Q K.aJ cE false with round:=1}):=by
   have h:=M.symm.trans HE;unfold Hid;rw[hy];unfold fQ at h ⊢;split
   .rename_i B;rw[ay B]at h;cases h
   .rename_i B;rw[au B]at h;split
    .rename_i h2;rw[ay h2]at h;cases h
    .rename_i h2;rw[au h2]at h;split
     .rename_i h3;rw[ay h3]at h;cases h
     .rfl
  have za:Hid (f=jA y (Sz ⟨C,L⟩ z)):=by unfold Hid;rw[r.Y,ay HE.Y,hy]
  have b8:=ae hy;have hU:∀b,s.U x0 b->b<w.heap.size:=λb m=>HH.ul m;have ct:=cR;have df:x0<w.heap.size:=HH.blk.lt;have cv:w.heap.size<O:=bW tz b5;have Xy:x0≠Y:=λe=>HH.b9.1 Y (by rw[HV.Y];rfl) e.symm;have a8:Hid (MS wc.drew x0 A n k q x s):=V.more (ai wc).drew;have bz:Hid (wc.drew.there Y (t*34) 34):=by
   obtain⟨g',d',z',dc,_,_,_,cy,cz⟩:=a8.task HT;have B:=dc.symm.trans HV;injection B with B
   injection B with B
   injection B with B
   subst B;exactλj hj=>⟨by rw[cy j _ (cq (show j<(jA (cC x t) z').length from hj))];rfl,cz _⟩
  have PY:Hid (oh wc.drew (s.I wc.drew x0) y (Sz ⟨C,L⟩ z)):=by
   unfold Hid;rw[HY.Y];have m:=(ah X Cm.Y).drew;refine oh.begun ((HZ.move (λb D=>m.block b D.1) λb D=>⟨bW D.1 m.size,D.2⟩):oh wc.drew (s.I wc.drew x0) K z) ((show eo wc.drew (λb=>l.heap.size<=b/\b<wc.heap.size) bj C Q.cases from Ai.Y).mono λb D=>⟨D.2,λe=>?_,λe=>?_,λe=>by have:=(HH.ol b e).1;have:=tz.Y;omega⟩)
   .have:=hU b (.inr e);have:=tz.Y;omega
   .have:=hU b (.inl e);have:=tz.Y;omega
  have Ck:=HT.Y;clear he hy hU ct cG;go_upto_region 4 with fail
  have W:=λ(g:World) (F:g.heap[x0]?=wc.heap[x0]?/\g.heap[O]?=wc.heap[O]?) i=>ag.cell (ag.tA V.blk F.1) i;unfold om at W;rw[HV.Y]at W;have Sc:∀g:World,(g.heap[x0]?=wc.heap[x0]?/\g.heap[O]?=wc.heap[O]?)->g.rangeAt O 0 f:=λg F=>ag.range (ag.tA zE F.2) f λj v P=>by rw[List.getElem?_toArray];exact P
  refine wp_region_held_drew (S:=λg:World=>g.heap[x0]?=wc.heap[x0]?/\g.heap[O]?=wc.heap[O]?) (by kernel_rfl) ⟨rfl,rfl⟩ (λa=>?_);refine aU 0 a ?_;refine aU 1 a ?_;refine aU 2 a ?_;refine aU 3 a ?_;refine aU 4 a ?_;(try simp only[aL]);refine ldT 5 a O 0 f (by rw[za.Y];rfl) Sc ?_;refine aU 6 a ?_;(try simp only[aL]);refine eQ 7 (λK d=>?_);refine stT Y (t*34) f (by rw[za.Y];rfl) (by rw[za.Y];exact gR _ _) bz ?_;refine d.Y _ _ ⟨aM Xy _ _,aM aa _ _⟩ (λa=>?_);clear d K;(try simp only[aL]);refine wpAnyH_done (by kernel_rfl) ?_ _;clear a W Sc;obtain⟨Z,Sw⟩:=MS.ab5 a8 HV HT y (Sz ⟨C,L⟩ z) PY;rw[<-za.Y]at Z Sw;obtain⟨E7,C7⟩:=av Z Sw;clear Z Sw bz PY Xy df cv;generalize ax wc.drew Y (t*34) f=w6 at *;have Cx:t<x.S.length:=by rw[b7.Y];exact Ck
  obtain⟨gS,dS,SE,_,cO⟩:=aK.form E7.S (by intro e;dsimp only at e;rw[e]at Cx;exact absurd Cx (Nat.not_lt_zero _));dsimp only at SE;have Kb:=E7.S;rw[SE]at Kb;have Xz:=aK.cell Kb (cq Cx);have cF:=λi=>aK.frozen Kb i;obtain⟨FI,-,c4⟩:=ag.aF E7.blk;unfold om at FI;dsimp only at FI;rw[SE]at FI;have Z3:=ae SE;clear Kb SE;obtain⟨ln,Gl⟩:=aw x.S.length;rw[<-Gl]at FI Cx;generalize x.S[t]=sv at Xz;clear Gl;go_upto_region 6 with fail
  clear FI Xz cF c4 cO Cx;obtain⟨(CF:Hid _),Vg⟩:=MS.ab6 E7 Z3 t 0;have vE:=ae Vg;clear Vg;generalize w6.setCell ⟨gS,t,none⟩ (.int .i64 0)=w7 at *;have uw:cC {x with T:=x.T.set t y,S:=x.S.set t 0} t=y:=by unfold cC;rw[ew,List.getElem?_set_self Ck];rfl
  have hn:=J9 CF 1 t (by rw[dN];exact Ck) cE (by rw[uw,HY.Y];exact b6.Y) Xj;rw[uw]at hn;have U0:Hid (Calls prog 70 #[.pointer (some ⟨x0,0,none⟩),.int .i64 1,.int .i64 t,.agg #[.int .i64 0,.int .i64 0,.int .i64 0,.int .i64 0]] w7 _):=hn;clear hn uw Ck;go_wp2_with fail;refine U0.mono ?_;rintro e w8 ⟨rfl,(ZH:Hid _)⟩;clear U0;go_wp2;go_ret;have hM:eu x t Q=({x with T:=x.T.set t y,S:=x.S.set t 0,N:=x.N++[⟨1,t,y.seq,x.time,y.aQ,cE⟩]},0):=by unfold eu;dsimp only;rw[<-a6.Y, <-M.Y,au (by rw[HE.Y];decide), <-b8.Y]
  rw[hM,HE.Y];obtain⟨s',NA,cw⟩:=ZH.Y;exact⟨rfl,s',NA,gV.trans (gV.trans (gV.trans (gV.ext (ah X Cm.Y).drew _) C7) vE) cw⟩
end
variable[OW]
section
variable{q:Nat}
theorem Mo.Rv{t:Nat}(h:t<x.P.length):x.P[t]?=some (Mo.iW x t):=by unfold Mo.iW;rw[ew,cq h];rfl
theorem MS.IG(H:MS w x0 A n k q x s){t:Nat}(f:t<x.P.length):∃g d,∃z:Sl,s.P=.slice (some ⟨g,0,none⟩) x.P.length d/\g<w.heap.size/\s.X x0 g/\dL w (s.I w x0) .i64 z.A (iW x t).outs/\(iW x t).outs.length<=z.c/\(∀i v,(nK (iW x t) z)[i]?=some v->w.cell? ⟨g,t*7+i,none⟩=some v)/\∀i,w.frozen? ⟨g,i,none⟩=false:=by obtain⟨g,d,b,_,l⟩:=aD.form H.P (by rintro e;rw[e]at f;exact absurd f (Nat.not_lt_zero _));have a:=H.P;rw[b]at a;obtain⟨r,h,o,j⟩:=aD.at_ a (Rv f);obtain⟨z,rfl,m,c⟩:=h;exact⟨g,d,z,b,l,.inr (.inr (.inl (by rw[b];rfl))),m,c,j,λi=>aD.bq a i⟩
theorem zQ.at_(h:zQ x0 A n k q x' w s w'):∃a,MS w' x0 A n k q x' a/\gV w w' (s.U x0) (a.U x0):=h
theorem zQ.more(H:MS w x0 A n k q x s)(f:Below w w w'):zQ x0 A n k q x w s w':=⟨s,H.more f,gV.ext f _⟩
theorem IH{p:Pm}{Q:Rq}(h:gy p=some Q):Q.cases.length<=1000000:=by
 unfold gy at h;repeat' split at h
 all_goals first
  |(cases h;done)
  |(injection h with h;subst h;first|exact aZ _|(show(1:Nat)<=1000000;decide))
theorem Vh(H:MS w x0 A n k q x s)(t:Nat)(ht:t<x.T.length)(NF:x.P.length=x.T.length)(J0:x.S.length=x.T.length)(U5:(iW x t).outs.length<=8)(h0:0<=(cC x t).seq)(h1:(cC x t).seq<=1048575)(hN:x.N.length<=1000000) :
 Calls prog 68 #[.pointer x0,t] w λe w'=>e=.returned (.tuple #[])/\zQ x0 A n k q (gj x t) w s w':=by
 have Vi:t<x.P.length:=by rw[NF];exact ht
 obtain⟨gT,dT,z,hv,cw,_,_,hc,_⟩:=H.task ht
 obtain⟨gP,dP,zp,P,ct,_,T,f,a,b6⟩:=H.IG Vi
 obtain⟨p,hp⟩:=aw (iW x t)
 obtain⟨pc,cB⟩:=aw ((cC x t).pc)
 obtain⟨D,CD⟩:=av hp cB
 rw[<-hp]at T f a U5
 have tq:=ae (sS w p zp T.1 U5 f)
 obtain⟨o,ho⟩:=aw (gy p)
 rw[<-ho]at tq
 have C:=ae ho
 unfold PmE nK nS at tq
 have L:=a 0 _ rfl
 rw[Nat.add_zero]at L
 have Z:=a 1 _ rfl
 have c2:=a 2 _ rfl
 have c3:=a 3 _ rfl
 have c4:=a 4 _ rfl
 have c5:=a 5 _ rfl
 have c6:=a 6 _ rfl
 obtain⟨F,HX,Rw,HV,bE,HT⟩:=cS (λ(y:World) (m:Below w w y)=>(show y.cell? ⟨gT,t*34,none⟩=some (.int .i64 pc)from(Below.cell m (bc (hc 0 _ rfl))).trans (by rw[cB];exact hc 0 _ rfl))) (λ(y:World) (m:Below w w y)=>H.more m) (λ(y:World) (m:Below w w y) (Q:Rq) (B:Sl) (hq:cN y bj B.A Q.cases) (hl:Q.cases.length<=1000000)=>Fc (H.more m) t ht J0 Q B hq hl h0 h1 hN) hv P ht
 obtain⟨G,bz⟩:=av Vi U5
 obtain⟨g,-,X⟩:=ag.aF H.blk
 unfold om at g
 rw[hv,P]at g
 obtain⟨lt,O⟩:∃l,l=x.T.length:=⟨_,rfl⟩
 obtain⟨lp,N⟩:∃l,l=x.P.length:=⟨_,rfl⟩
 rw[<-O, <-N]at g
 rw[<-O]at ht
 rw[<-N]at Vi
 clear hp cB hc a hv P T f U5 ho H hN h0 h1 J0 NF b6 O N
 go_enter func68,ntmps68
 go_wp2_with fail
 refine tq.mono ?_
 rintro e w2 ⟨B,rfl,a6,(bB:Hid _)⟩
 have gO:=ae a6
 clear a6 tq L Z c2 c3 c4 c5 c6 g X
 rcases o with _|Q
 .clear F Rw;go_wp2;refine bodyPost_ret (v:=.tuple #[]) (by simp[results,results68,go_sem]) rfl ?_;have M:gj x t=x:=by unfold gj;rw[<-D.Y, <-C.Y]
  rw[M];exact⟨rfl,zQ.more (HX w (ai w)) (aj bB _)⟩
 .have J:=ae (aj bB (lQ Q B.A Q.cases.length B.c));have NG:=ae (HX _ J);obtain⟨g,-,X⟩:=ag.aF NG.blk;unfold om at g;rw[HV.Y,bE.Y]at g;have uy:=F.Y _ J;dsimp only[Option.getD_some]at gO;obtain⟨w3,u⟩:=aw (w2.alloc (lQ Q B.A Q.cases.length B.c));have oL:=ae u;have mq:Hid (ag w3 w2 38 (nS Q B).toArray):=by rw[u];exact ag.new _ _ _
  have rj:Hid (cN w3 bj B.A Q.cases):=by rw[u];exact gO.1.1.below (aj (ai w2) _)
  rw[<-u]at J NG g X uy;obtain⟨gB,-,b8⟩:=ag.aF mq;unfold nS at gB;have Ck:=HT.Y;clear u;go_upto_region 1 with fail
  rw[<-oL.Y];by_cases U:pc=0;rotate_left
  .have d1:(pc !=0)=true:=by simpa using U
   have Y:=ae U;clear U;go_wp2;refine bodyPost_ret (v:=.tuple #[]) (by simp[results,results68,go_sem]) rfl ?_;have M:gj x t=x:=by unfold gj;rw[<-D.Y, <-C.Y];dsimp only;rw[<-CD.Y,ay Y.Y]
   rw[M];exact⟨rfl,zQ.more (HX w (ai w)) J⟩
  have d1:(pc !=0)=false:=by rw[U];rfl
  obtain⟨Y,xB⟩:=av U (Rw w3 J Q B rj (IH C.symm));have XA:Hid (gj x t=if(eu x t Q).2≠0 then{x with P:=x.P.set t (jU p (bg 7))}else(eu x t Q).1):=by unfold Hid gj;rw[<-D.Y, <-C.Y];dsimp only;rw[<-CD.Y,au (λe=>e U)]
  obtain⟨er,Rt⟩:=aw ((eu x t Q).2);have Ka:=ae Rt;rw[<-Rt]at xB XA;unfold nS at xB;clear Rt U;go_wp2_with fail;refine xB.mono ?_;rintro e V ⟨rfl,(Zc:Hid _)⟩;clear g X gB b8 uy xB Rw F rj gO mq oL d1;by_cases W:er=0
  .have d1:(er !=0)=false:=by rw[W];rfl
   have HE:=ae W;clear W;go_wp2;go_end0;rw[XA.Y,au (λe=>e HE.Y)];obtain⟨s',h1,h2⟩:=Zc.Y;exact⟨rfl,s',h1,gV.trans (gV.ext J _) h2⟩
  have d1:(er !=0)=true:=by simpa using W
  have HE:=ae W;clear W;obtain⟨s5,j,Ir⟩:=Zc.Y;have a8:(eu x t Q).1=x:=by have h:=HE.Y;rw[Ka.Y]at h;exact XC
  rw[a8]at j;have oc:=ae (gV.trans (gV.ext J _) Ir);clear Ir Zc a8;obtain⟨gQ,dQ,zr,R,cv,_,XD,f,c,b7⟩:=j.IG G;rw[<-D.Y]at XD f c;have QO:=ae (Bw V.drew p zr (bg 7) (XD.1.below (ai V).drew) bz f);obtain⟨p',a7⟩:=aw (jU p (bg 7));rw[<-a7]at QO XA;unfold nK bg at QO;(try dsimp only at QO);have L:=c 0 _ rfl;rw[Nat.add_zero]at L;have Z:=c 1 _ rfl;have c2:=c 2 _ rfl;have c3:=c 3 _ rfl;have c4:=c 4 _ rfl;have c5:=c 5 _ rfl;have c6:=c 6 _ rfl;obtain⟨rY,I⟩:=av j R;have XE:x0≠gQ:=λe=>j.b9.2.1 gQ (by rw[R];rfl) e.symm;have X:=j.blk.lt;have Zx:=G.Y;clear j R a7 c XD f b7;go_upto_region 3 with fail
  have g:=λ(y:World) (hx:y.heap[x0]?=V.heap[x0]?) i=>ag.cell (ag.tA rY.blk hx) i;unfold om at g;rw[I.Y]at g;refine wp_region_held_drew (S:=λy:World=>y.heap[x0]?=V.heap[x0]?) (by kernel_rfl) rfl (λd=>?_);refine aU 0 d ?_;refine aU 1 d ?_;refine aU 2 d ?_;refine aU 3 d ?_;refine aU 4 d ?_;refine aU 5 d ?_;refine aU 6 d ?_;refine aU 7 d ?_;refine aU 8 d ?_;refine aU 9 d ?_;refine aU 10 d ?_;refine aU 12 d ?_;(try simp only[aL]);refine eQ 11 (λK E=>?_);go_simp;refine E.Y _ _ aN (λd=>?_);clear E K;(try simp only[aL]);refine eQ 13 (λK E=>?_);go_simp;refine QO.mono ?_;rintro e w6 ⟨zg,rfl,(Bu:Hid _),r⟩;have E7:=ae (rY.more (ah (ai V).drew r));have e0:=(Below.cell r (bc L)).trans L;have e1:=(Below.cell r (bc Z)).trans Z;have e2:=(Below.cell r (bc c2)).trans c2;have e3:=(Below.cell r (bc c3)).trans c3;have e4:=(Below.cell r (bc c4)).trans c4;have e5:=(Below.cell r (bc c5)).trans c5;have e6:=(Below.cell r (bc c6)).trans c6;have SF:=E7.P;rw[I.Y]at SF;have b5:=λi=>aD.bq SF i;have aq:w6.heap[x0]?=V.heap[x0]?:=r.block x0 X;have nJ:=ae r;clear L Z c2 c3 c4 c5 c6 r SF;go_wp2_with fail;refine E.Y _ _ aq (λd=>?_);clear E K;(try simp only[aL]);refine aU 14 d ?_;(try simp only[aL]);refine eQ 15 (λK E=>?_);go_simp;refine E.Y _ _ ((aM XE (nK p' zg) (t*7)).trans aq) (λd=>?_);clear E K;(try simp only[aL]);refine wpAnyH_done (by kernel_rfl) ?_ _;clear d;have hU:=λb m=>rY.ul (b:=b) m;obtain⟨M,hF⟩:=MS.ZX E7 I G p' zg ⟨Bu.1.mono λb m=>⟨m.2,λe=>Nat.lt_irrefl _ (bW (hU b (.inr e)) m.1),λe=>Nat.lt_irrefl _ (bW (hU b (.inl e)) m.1),λe=>Nat.lt_irrefl _ (bW (rY.ol b e).1 m.1)⟩,Bu.2⟩;unfold nK at M hF;obtain⟨CF,vE⟩:=av M hF;clear M hF e0 e1 e2 e3 e4 e5 e6 b5 g hU;go_wp2;go_end0;rw[XA.Y,ay HE.Y];exact⟨rfl,_,CF,gV.trans (gV.trans oc (gV.ext (ah (ai V).drew nJ) _)) vE⟩
end
variable[OW]
section
variable{q:Nat}
theorem MS.adn(H:MS w x0 A n k q x s)(l:Below 0 w w1)(z:∀b,b<w.heap.size->b≠x0->s.N.ownBlock≠some b->w1.heap[b]?=w.heap[b]?)(u:ag w1 x0 86 (om A n k {x with N:=N'} {s with N:=v'}))(r:aD 66 13 SB w1 0 (Sx.I {s with N:=v'} w1 x0) v' N')(hf:∀b,v'.ownBlock=some b->s.N.ownBlock=some b\/w.heap.size<=b):MS w1 x0 A n k q {x with N:=N'} {s with N:=v'}/\gV w w1 (s.U x0) (Sx.U {s with N:=v'} x0):=by
 have f:∀b,Sx.X {s with N:=v'} x0 b->s.X x0 b\/w.heap.size<=b:=by exact ab7
 have V:Mv w w1 x0 s {s with N:=v'} (λb=>b=x0\/s.N.ownBlock=some b):=⟨l,λb g d=>z b g (λe=>d (.inl e)) λe=>d (.inr e),λb h=>h.elim (λh=>.inl (.inl h)) λh=>.inl (.inr (.inr (.inr (.inl h)))),λb h=>h.elim (λh=>(f b h).imp .inl id) λh=>.inl (.inr h)⟩
 exact⟨{blk:=u,mem:=V.CI H.mem λb c e=>H.mx b c (e.elim (λe=>.inl e) λe=>(.inr (.inr (.inr (.inl e))))),N:=r,T:=V.rows lv H.T λb c e=>e.elim (H.b9.1 b c) λe=>(aD.mA H.T b c).elim λ_ h=>h.elim λ_ h=>(aD.mA H.N b e).elim λ_ a=>a.elim λ_ a=>fw h a af rfl,P:=V.rows ny H.P λb c e=>e.elim (H.b9.2.1 b c) λe=>(aD.mA H.P b c).elim λ_ h=>h.elim λ_ h=>(aD.mA H.N b e).elim λ_ a=>a.elim λ_ a=>fw h a af rfl,V:=V.rows je H.V λb c e=>e.elim (H.b9.2.2.2.1 b c) λe=>(aD.mA H.V b c).elim λ_ h=>h.elim λ_ h=>(aD.mA H.N b e).elim λ_ a=>a.elim λ_ a=>fw h a af rfl,S:=V.ints H.S λb c e=>e.elim (H.b9.2.2.2.2.1 b c) λe=>(dY H.S b c).elim λ_ h=>h.elim λ_ h=>(aD.mA H.N b e).elim λ_ a=>a.elim λ_ a=>fw h a af rfl,M:=V.ints H.M λb c e=>e.elim (H.b9.2.2.2.2.2 b c) λe=>(dY H.M b c).elim λ_ h=>h.elim λ_ h=>(aD.mA H.N b e).elim λ_ a=>a.elim λ_ a=>fw h a af rfl,mx:=λb c h=>(f b h).elim (H.mx b c) λh=>by have:=H.mem.lt c;omega,sm:=H.sm,cf:=V.cfg H.cf,hn:=H.hn,ol:=V.ol H.ol},V.fr⟩
structure NS (w4:World) (x0 gn:Nat) (A:Option Addr) (n k:Nat) (x:Mo.Mc) (s:Sx) (SS:Nat->Prop) (zA:Option Addr) (cs:List Mo.Cs) (v:Value) (N':List Mo.Nt) (W:World):Prop where
 kx:ag W x0 86 (om A n k x {s with N:=v})
 ow:aD 66 13 SB W 0 SS v N'
 lt:∀b,SS b->b<W.heap.size/\v.ownBlock≠some b/\b≠x0/\b≠gn
 gx:v.ownBlock≠some gn/\v.ownBlock≠some x0/\gn≠x0
 lS:Below 0 w4 W
 eq:∀b,b<w4.heap.size->b≠x0->s.N.ownBlock≠some b->W.heap[b]?=w4.heap[b]?
 own:∀b,v.ownBlock=some b->s.N.ownBlock=some b\/w4.heap.size<=b
 g:w4.heap.size<=gn/\gn<W.heap.size
 q:eo W SS bj zA cs
section
variable{cs:List Mo.Cs}
theorem NS.more(h:NS w4 x0 gn A n k x s SS zA cs v N' W){l:World}(f:Below W W l):NS w4 x0 gn A n k x s SS zA cs v N' l:=⟨h.kx.ah f,h.ow.move fI (λb a=>f.block b (h.lt b a).1) λb a=>f.block b (aD.lt h.ow a).2,λb a=>⟨bW (h.lt b a).1 f.size,(h.lt b a).2⟩,h.gx,h.lS.trans (f.mono (aZ _)),λb c d e=>(f.block b (bW c h.lS.size)).trans (h.eq b c d e),h.own,⟨h.g.1,bW h.g.2 f.size⟩,h.q.same λb a=>f.block b (h.lt b a).1⟩
theorem NS.Rx(h:NS w4 x0 gn A n k x s SS zA cs v N' W)(i:Nat)(u:Value):NS w4 x0 gn A n k x s SS zA cs v N' (W.setCell ⟨gn,i,none⟩ u) :=
 have e:∀b,b≠gn->(W.setCell ⟨gn,i,none⟩ u).heap[b]?=W.heap[b]?:=λb a=>dE _ _ _ _ a
 have d:(W.setCell ⟨gn,i,none⟩ u).heap.size=W.heap.size:=aA
 ⟨(e x0 λe=>h.gx.2.2 e.symm).trans h.kx,h.ow.move fI (λb a=>e b (h.lt b a).2.2.2) λb a=>e b λe=>h.gx.1 (e▸a),λb a=>⟨by rw[d];exact(h.lt b a).1,(h.lt b a).2⟩,h.gx,h.lS.setCell (p:=⟨gn,i,none⟩) (aZ _) u,λb c f g=>(e b (Nat.ne_of_lt (bW c h.g.1))).trans (h.eq b c f g),h.own,⟨h.g.1,by rw[d];exact h.g.2⟩,h.q.same λb a=>e b (h.lt b a).2.2.2⟩
theorem NS.app(h:NS w4 x0 gn A n k x s SS zA cs v N' W){d:World}{y:Nt}(B:aD 66 13 SB d 0 SS v' (N'++[y]))(z:W.grownBy d v.ownBlock)(u:v'.ownBlock=v.ownBlock\/v'.ownBlock=some W.heap.size):NS w4 x0 gn A n k x s SS zA cs v' (N'++[y]) (d.setCell ⟨x0,14,none⟩ v'):=by
 obtain⟨rows,_,t,_⟩:=h.ow;have j:Below 0 W d:=aH.aW t (Below.refl 0 W) z (aZ _) (aR _);have e:∀b,b≠x0->(d.setCell ⟨x0,14,none⟩ v').heap[b]?=d.heap[b]?:=λb a=>dE _ _ _ _ a;have r:(d.setCell ⟨x0,14,none⟩ v').heap.size=d.heap.size:=aA;have i:∀b,b<W.heap.size->v.ownBlock≠some b->d.heap[b]?=W.heap[b]?:=λb a l=>z.block b a λe=>l e.symm;have c:∀b,b<W.heap.size->v.ownBlock≠some b->v'.ownBlock≠some b:=λb a l e=>u.elim (λf=>l (f▸e)) λf=>by rw[f]at e;injection e with e;omega
 have m:=h.kx.lt;exact⟨ag.bp ((i x0 m h.gx.2.1).trans h.kx) 14 v',B.move fI (λb a=>e b (h.lt b a).2.2.1) λb a=>e b λf=>c x0 m h.gx.2.1 (f▸a),λb a=>⟨by rw[r];exact bW (h.lt b a).1 j.size,c b (h.lt b a).1 (h.lt b a).2.1,(h.lt b a).2.2⟩,⟨c gn h.g.2 h.gx.1,c x0 m h.gx.2.1,h.gx.2.2⟩,(h.lS.trans j).setCell (p:=⟨x0,14,none⟩) (aZ _) v',λb g o q=>(e b o).trans ((i b (bW g h.lS.size) λf=>(h.own b f).elim q λf=>Nat.lt_irrefl _ (bW g f)).trans (h.eq b g o q)),λb a=>u.elim (λf=>h.own b (f▸a)) λf=>by rw[f]at a;injection a with a;exact .inr (a▸h.lS.size),⟨h.g.1,by rw[r];exact bW h.g.2 j.size⟩,h.q.same λb a=>(e b (h.lt b a).2.2.1).trans (i b (h.lt b a).1 (h.lt b a).2.1)⟩
theorem NS.fin(h:NS w4 x0 gn A n k x s SS zA cs v N' W)(H:MS w4 x0 A n k q x s)(d:∀b,SS b->s.I w4 x0 b\/w4.heap.size<=b):MS W x0 A n k q {x with N:=N'} {s with N:=v}/\gV w4 W (s.U x0) (Sx.U {s with N:=v} x0):=by refine H.adn h.lS h.eq h.kx (h.ow.mono fI λb c=>?_) h.own;have i:∀b,SS b->¬s.U x0 b:=λb c e=>(d b c).elim (λf=>e.elim f.2.2.1 f.2.1) λf=>Nat.lt_irrefl _ (bW (H.ul e) f);have a:=i b c;have g:=(h.lt b c).2.1;refine⟨(h.lt b c).1,λe=>a (.inr e),?_,λe=>(d b c).elim (λf=>f.2.2.2 e) λf=>Nat.lt_irrefl _ (bW (H.ol b e).1 f)⟩;exactλe=>e.elim (λe=>a (.inl (.inl e))) λe=>e.elim (λe=>a (.inl (.inr (.inl e)))) λe=>e.elim (λe=>a (.inl (.inr (.inr (.inl e))))) λe=>e.elim g λe=>e.elim (λe=>a (.inl (.inr (.inr (.inr (.inr (.inl e))))))) λe=>e.elim (λe=>a (.inl (.inr (.inr (.inr (.inr (.inr (.inl e)))))))) λe=>a (.inl (.inr (.inr (.inr (.inr (.inr (.inr e)))))))
end
theorem MS.tick(H:MS w x0 A n k q x s)(v:Int):MS (w.setCell ⟨x0,18,none⟩ v) x0 A n k q {x with time:=v} s/\gV w (w.setCell ⟨x0,18,none⟩ v) (s.U x0) (s.U x0) :=
 have a:Below 0 w (w.setCell ⟨x0,18,none⟩ v):=(Below.refl 0 w).setCell (p:=⟨x0,18,none⟩) (aZ _) _
 have c:∀b,b≠x0->(w.setCell ⟨x0,18,none⟩ v).heap[b]?=w.heap[b]?:=λb h=>dE _ _ _ _ h
 ⟨H.upd a (λb _ h=>c b h) (H.blk.bp 18 _) rfl rfl rfl rfl rfl rfl rfl rfl rfl,⟨a,λb _ h=>c b λe=>h (.inl (.inl e)),λ_ h=>.inl h⟩⟩
theorem Fe{t:Nat}{Q:Rq}(h:(eu x t Q).2≠0):(eu x t Q).1=x:=by exact XC
theorem Vj(H:MS w x0 A n k q x s)(t:Nat)(ht:t<x.T.length)(NF:x.P.length=x.T.length)(J0:x.S.length=x.T.length)(Q:Rq)(G:Sl)(hq:eo w (s.I w x0) bj G.A Q.cases)(hl:Q.cases.length<=9223372036854775807)(h0:0<=(cC x t).seq)(Y:(cC x t).seq<=1048575)(hN:x.N.length<=900000)(MM:0<=x.time/\x.time<=1000000) :
 Calls prog 41 #[.pointer x0,t,.agg (nS Q G).toArray] w λe w'=>e=.returned (.int .i64 (mV x t Q).2)/\zQ x0 A n k q (mV x t Q).1 w s w':=by
 have Vi:t<x.P.length:=by rw[NF];exact ht
 obtain⟨gT,dT,z,hv,dS,_,_,hc,_⟩:=H.task ht
 obtain⟨gP,dP,zp,b8,dQ,_,_,_,bE,_⟩:=H.IG Vi
 obtain⟨pc,cB⟩:=aw ((cC x t).pc)
 obtain⟨on,jq⟩:=aw ((iW x t).on)
 have HC:Hid (mV x t Q=if pc≠0\/on=true\/Mo.bt Q=false then(x,15)else if(eu {x with time:=x.time+1} t Q).2≠0 then({x with time:=x.time+1,N:=x.N++[⟨1,t,0,x.time+1,Q,cE⟩,⟨3,t,0,x.time+1,Q,bg 7⟩]},0)else((eu {x with time:=x.time+1} t Q).1,0)):=by unfold Hid mV;rw[cB,jq]
 obtain⟨w1,mn⟩:=aw (w.alloc (lQ Q G.A Q.cases.length G.c))
 have br:Hid (Below w w w1):=by rw[mn];exact aj (ai w) _
 have ik:Hid (ag w1 w 38 (nS Q G).toArray):=by rw[mn];exact ag.new _ _ _
 obtain⟨vV,uC⟩:=av (H.more br) (mZ w1 Q.kind Q.arg Q.value Q.dflt G.A G.c Q.cases hl (hq.1.below br))
 rw[show bt Q.kind Q.arg Q.value Q.cases=Mo.bt Q from rfl]at uC
 obtain⟨fq,cj⟩:=aw (Mo.bt Q)
 have Zr:=ae cj
 rw[<-cj]at uC HC
 have ct:∀v,Below w w v->v.cell? ⟨gT,t*34,none⟩=some (.int .i64 pc):=λv a=>(Below.cell a (bc (hc 0 _ rfl))).trans (by rw[cB];exact hc 0 _ rfl)
 have cp:∀v,Below w w v->v.cell? ⟨gP,t*7,none⟩=some (.bool on):=λv a=>(Below.cell a (bc (bE 0 _ rfl))).trans (by rw[jq];exact bE 0 _ rfl)
 have dw:=ct w1 br
 have dm:=cp w1 br
 obtain⟨HV,dO,HT,dM,HQ,df⟩:=cS hv b8 ht Vi hq J0;obtain⟨HH,H0,H1,Am,dz,lW⟩:=cS H h0 Y hN MM mn
 have e1:IntKind.i64.wrap (x.time+1)=x.time+1:=bH _ aa
 obtain⟨W,kf,iM⟩:=ag.aF vV.blk
 obtain⟨J,-,N⟩:=ag.aF ik
 unfold nS at J
 unfold om at W
 rw[hv,b8]at W
 clear H hq hl hN J0 NF h0 Y hv b8 hc bE ct cp cB jq mn cj MM
 unfold nS
 go_enter func41,ntmps41
 go_upto_region 1 with fail
 rw[<-lW.Y]
 clear lW
 have c0:∀D,Below w w D->mV x t Q=(x,15)->(Ending.returned (.int .i64 15)=.returned (.int .i64 (mV x t Q).2)/\zQ x0 A n k q (mV x t Q).1 w s D):=λD a e=>by rw[e];exact⟨rfl,zQ.more HH a⟩
 have zw:=ae c0
 clear c0
 by_cases rk:pc=0
 rotate_left
 .have d1:(pc !=0)=true:=by simpa using rk
  have HZ:=ae rk;clear rk;go_wp2;go_ret;exact zw.Y w1 br (by rw[HC.Y,ay (.inl HZ.Y)])
 have d1:(pc !=0)=false:=by rw[rk];rfl
 have HZ:=ae rk
 clear rk
 cases on with
 |true=>go_wp2;go_ret;exact zw.Y w1 br (by rw[HC.Y,ay (.inr (.inl (by first|rfl|trivial)))])
 |false =>
  go_wp2_with fail;refine uC.mono ?_;rintro e w2 ⟨rfl,B⟩;obtain⟨bB,uO,jw⟩:=aS (ah br B) (vV.more B) (ik.ah B);clear B uC W kf iM J N dw dm vV ik;cases fq with
  |false=>go_wp2;go_ret;exact zw.Y w2 bB (by rw[HC.Y,ay (.inr (.inr aca))])
  |true =>
   obtain⟨W,kf,iM⟩:=ag.aF uO.blk;obtain⟨J,-,N⟩:=ag.aF jw;unfold nS at J;unfold om at W;clear d1;go_upto_region 4 with fail
   have jm:Hid (mV x t Q=if(eu {x with time:=x.time+1} t Q).2≠0 then({x with time:=x.time+1,N:=x.N++[⟨1,t,0,x.time+1,Q,cE⟩,⟨3,t,0,x.time+1,Q,bg 7⟩]},0)else((eu {x with time:=x.time+1} t Q).1,0)):=HC.trans (au λh=>h.elim (λh=>h HZ) λh=>h.elim (λh=>by cases h) λh=>by cases h);clear HC zw W kf iM J N;obtain⟨(qW:Hid _),BV⟩:=MS.tick uO (x.time+1);have c4:w≠x0:=λe=>Nat.lt_irrefl _ (e▸HH.blk.lt);have LR:ag (w2.setCell ⟨x0,18,none⟩ (.int .i64 (x.time+1))) w 38 (nS Q G).toArray:=jw.b9 c4 _;have BV:=gV.trans (gV.ext bB _) BV;have zx:eo (w2.setCell ⟨x0,18,none⟩ (.int .i64 (x.time+1))) (λb=>b<w/\¬s.U x0 b) bj G.A Q.cases:=(HQ.same λb a=>BV.same b a.1 λe=>e.elim a.2.2.1 a.2.1).mono λb a=>⟨a.1,λe=>e.elim a.2.2.1 a.2.1⟩
   obtain⟨rW,gN,iG⟩:=aS BV LR zx;clear BV LR zx c4;generalize w2.setCell ⟨x0,18,none⟩ (.int .i64 (x.time+1))=w3 at *;obtain⟨C,l⟩:∃C:Mc,C={x with time:=x.time+1}:=⟨_,rfl⟩
   rw[<-l]at qW jm;have b5:Q.cases.length<=1000000:=bm (iC Zr.symm) af;have xB:=ae (Fc qW t (by rw[l];exact HT.Y) (by rw[l];exact df.Y) Q G iG.1 b5 (by rw[l];exact H0.Y) (by rw[l];exact H1.Y) (by rw[l];have:=Am.Y;show x.N.length<=1000000;omega));obtain⟨er,Rt⟩:=aw ((eu C t Q).2);obtain⟨Ka,nj,Nl⟩:=aS Rt l b5;rw[<-Rt]at xB jm;unfold nS at xB;obtain⟨J,-,N⟩:=ag.aF gN;unfold nS at J;clear Rt l b5;go_wp2_with fail;refine xB.mono ?_;rintro e u ⟨rfl,(aq:Hid _)⟩;clear J N xB;by_cases he:er=0
   .have d1:(er !=0)=false:=by rw[he];rfl
    have HE:=ae he;clear he;go_wp2;go_ret;rw[jm.Y,au (λe=>e HE.Y)];obtain⟨s',Y,h2⟩:=aq.Y;exact⟨rfl,s',Y,gV.trans rW h2⟩
   have d1:(er !=0)=true:=by simpa using he
   have HE:=ae he;clear he;obtain⟨R,P5,QP⟩:=aq.Y;rw[Fe (by rw[<-Ka.Y];exact HE.Y)]at P5;have hU:∀b,s.U x0 b->b<w:=λb a=>HH.ul a;have cy:w<w3.heap.size:=gN.lt;obtain⟨kG,ku,Kc,xb⟩:=bh ((QP.same w cy (λe=>Nat.lt_irrefl _ (hU _ e))).trans gN) (iG.same λb a=>QP.same b (Nat.lt_trans a.1 cy) a.2) P5 (gV.trans rW QP);have rj:=ae (λv (hx:Ext u v)=>jY v Q G Nl (ku.1.below hx.Y));unfold nS at rj;clear P5 QP hU cy aq qW rW gN iG uO jw;go_upto_region 5 with fail
   have W:=λv (hx:Ext u v) i=>ag.cell (Kc.more hx.Y).blk i;unfold om at W;have J:=λv (hx:Ext u v) i=>ag.cell (ag.ah (show ag u w 38 (nS Q G).toArray from kG.Y) hx.Y) i;unfold nS at J;go_cut[7] (λs7 v=>Xx u ⟨1,t,0,C.time,Q,cE⟩ s7 v);case first =>
    refine wp_region_held_drew (S:=(Ext u)) gG (Ext.start _) (λd=>?_);refine aU 0 d ?_;refine aU 1 d ?_;refine aU 2 d ?_;refine aU 3 d ?_;refine aU 4 d ?_;refine aU 5 d ?_;refine wpAnyH_ready (rs:=[6,8]) gG aA ?_;refine(AllReadyH.cons (o:=⟨some 50,_,_,_,_,_⟩) rfl (λK c=>?_) (AllReadyH.cons (o:=⟨some 7,_,_,_,_,_⟩) rfl (λK c=>?_) AllReadyH.nil));go_simp;((with_reducible go_fit (rj.Y _ aN));rintro e P ⟨⟨m,p⟩,rfl,ho,B⟩;have xx:Ext u P:=Ext.to aN B;(try have Fb:=(ag.jd (ag.new u _ _)).ah B);(try have O:=λi=>ag.cell Fb i);(try have Z:=λi=>ag.free Fb i);(try have zF:=Fb.lt));go_wp2_with fail;refine c.Y _ _ (zI) (λd=>?_);clear c K;refine aU 7 d ?_;refine eQ 8 (λK c=>?_);go_simp;refine c.Y _ _ (zI) (λd=>?_);clear c K;refine eQ 9 (λK c=>?_);go_simp;refine c.Y _ _ (zI) (λd=>?_);clear c K;refine nT ?_;rotate_left;go_simp;refine c.Y _ _ (zI) (λd=>?_);clear c K;refine eQ 6 (λK c=>?_);go_simp;((with_reducible go_fit (rj.Y _ aN));rintro e P ⟨⟨m,p⟩,rfl,ho,B⟩;have xx:Ext u P:=Ext.to aN B;(try have Fb:=(ag.jd (ag.new u _ _)).ah B);(try have O:=λi=>ag.cell Fb i);(try have Z:=λi=>ag.free Fb i);(try have zF:=Fb.lt));go_wp2_with fail;refine c.Y _ _ (zI) (λd=>?_);clear c K;refine aU 7 d ?_;refine eQ 9 (λK c=>?_);go_simp;refine c.Y _ _ (zI) (λd=>?_);clear c K;refine nT ?_;rotate_left
    .go_wp2;go_meet;have zz:ag (P.alloc (.cells (zh ⟨1,t,0,C.time,Q,cE⟩ ⟨m,p⟩).toArray 66)) P 66 (zh ⟨1,t,0,C.time,Q,cE⟩ ⟨m,p⟩).toArray:=ag.new _ _ _;exact⟨_,⟨m,p⟩,rfl,xx.Y.size,zz,(ho.1.same λb a=>(aj (ai P) _).block b a.2).mono λb a=>⟨a.1,by simp;omega,by have:=a.2;omega⟩,Ext.alloc xx _⟩
    .clear O Z zF;go_wp2_with fail;have hQ:=aY (vs:=[.int .i64 1,t,oZ,C.time,Q.kind,Q.arg,Q.value,Q.dflt,.slice m Q.cases.length p,oZ,oZ,oZ,oZ]) (cs:=[oZ,oZ,oZ,oZ,oZ,oZ,oZ,false,oN,oZ,oZ,oZ,oZ]) Fb rfl;have xq:Ext u (ax P u 0 [.int .i64 1,t,oZ,C.time,Q.kind,Q.arg,Q.value,Q.dflt,.slice m Q.cases.length p,oZ,oZ,oZ,oZ]):=az (aR _) _ _ _ xx.Y;have LR:eo (ax P u 0 [.int .i64 1,t,oZ,C.time,Q.kind,Q.arg,Q.value,Q.dflt,.slice m Q.cases.length p,oZ,oZ,oZ,oZ]) (λb=>u<=b/\b<(ax P u 0 [.int .i64 1,t,oZ,C.time,Q.kind,Q.arg,Q.value,Q.dflt,.slice m Q.cases.length p,oZ,oZ,oZ,oZ]).heap.size/\b≠u.heap.size) bj m Q.cases:=(ho.1.same λb a=>aM (by have:=a.1;simp at this;omega) _ 0).mono λb a=>⟨by have:=a.1;simp at this;omega,by rw[bO];exact a.2,by have:=a.1;simp at this;omega⟩
     change Met _ _ (ax P u 0 [.int .i64 1,t,oZ,C.time,Q.kind,Q.arg,Q.value,Q.dflt,.slice m Q.cases.length p,oZ,oZ,oZ,oZ]);generalize ax P u 0 [.int .i64 1,t,oZ,C.time,Q.kind,Q.arg,Q.value,Q.dflt,.slice m Q.cases.length p,oZ,oZ,oZ,oZ]=w6 at *;go_meet;exact⟨_,⟨m,p⟩,rfl,aR _,hQ,LR,xq⟩
   case rest =>
    obtain⟨j,⟨m,p⟩,rfl,zF,X,cG,E⟩:=hcut;obtain⟨f,xN⟩:∃y:Nt,y=⟨1,t,0,C.time,Q,cE⟩:=⟨_,rfl⟩
    rw[<-xN]at X;obtain⟨SS,L⟩:∃SS:Nat->Prop,SS=λb=>R.I u x0 b\/(u<=b/\b<wc/\b≠j):=⟨_,rfl⟩
    have hU:∀b,R.U x0 b->b<u:=λb a=>Kc.ul a;have T:Hid (NS u x0 j A n k C R SS m Q.cases R.N C.N wc):=by
     have cR:¬R.U x0 j:=λe=>Nat.lt_irrefl _ (bW (hU _ e) zF);refine⟨(Kc.more E).blk,(Kc.N.move fI (λb a=>E.block b a.1) λb a=>E.block b (aD.lt Kc.N a).2).mono fI (λb a=>by rw[L];exact .inl a),λb a=>?_,⟨λe=>cR (.inl (.inr (.inr (.inr (.inl e))))),λe=>Kc.b9.2.2.1 x0 e rfl,λe=>cR (.inl (.inl e))⟩,E.mono (aZ _),λb Y _ _=>E.block b Y,λb a=>.inl a,⟨zF,X.lt⟩,cG.mono λb a=>by rw[L];exact .inr a⟩;rw[L]at a;rcases a with a|a
     .exact⟨bW a.1 E.size,λe=>a.2.2.1 (.inr (.inr (.inr (.inl e)))),λe=>a.2.2.1 (.inl e),λe=>Nat.lt_irrefl _ (bW a.1 (e▸zF))⟩
     .have cO:¬R.U x0 b:=λe=>Nat.lt_irrefl _ (bW (hU _ e) a.1);exact⟨a.2.1,λe=>cO (.inl (.inr (.inr (.inr (.inl e))))),λe=>cO (.inl (.inl e)),a.2.2⟩
    have KX:Hid (∀b,SS b->R.I u x0 b\/u<=b):=λb a=>by rw[L]at a;exact a.imp id λh=>h.1
    obtain⟨U,cD⟩:=av X xN;have dg:Hid (f.aQ.cases=Q.cases):=by unfold Hid;rw[xN]
    have Vk:Hid (C.N=x.N):=by unfold Hid;rw[nj.Y]
    clear X xN L hU cG E zF W J rj ku kG;go_upto_region 6 with fail
    have F:j<wc:=U.lt;have V:=ae ((aj (ai wc) (.cells #[f.kind,f.th,f.seq,f.time,f.aQ.kind,f.aQ.arg,f.aQ.value,f.aQ.dflt,.slice m f.aQ.cases.length p,f.res.seq,f.res.cs,f.res.code,f.res.value] 66)).drew);have r:=ae (T.more V);have l:wc.drew.cell? ⟨x0,14,none⟩=some R.N:=ag.cell T.kx 14;have cw:(wc.alloc (.cells #[f.kind,f.th,f.seq,f.time,f.aQ.kind,f.aQ.arg,f.aQ.value,f.aQ.dflt,.slice m f.aQ.cases.length p,f.res.seq,f.res.cs,f.res.code,f.res.value] 66)).drew.cell? ⟨x0,14,none⟩=some R.N:=ag.cell r.kx 14;have cv:wc.cell? ⟨x0,14,none⟩=some R.N:=l;have b7:x0<wc:=T.kx.lt;have qa:Hid (Rd (wc.alloc (.cells #[f.kind,f.th,f.seq,f.time,f.aQ.kind,f.aQ.arg,f.aQ.value,f.aQ.dflt,.slice m f.aQ.cases.length p,f.res.seq,f.res.cs,f.res.code,f.res.value] 66)).drew wc (zh f ⟨m,p⟩)):=Rd.lit wc (zh f ⟨m,p⟩) 66;have O:=λ(v:World) (hx:v.heap[j]?=wc.heap[j]?) i=>ag.cell (ag.tA U hx) i;unfold zh at O;refine wp_region_held_drew (S:=λv:World=>v.heap[j]?=wc.heap[j]?) gG rfl (λd=>?_);refine aU 0 d ?_;refine aU 1 d ?_;refine aU 2 d ?_;refine aU 3 d ?_;refine aU 5 d ?_;refine wpAnyH_ready (rs:=[4,6]) gG aA ?_;refine(AllReadyH.cons (o:=⟨some 56,_,_,_,_,_⟩) rfl (λK c=>?_) (AllReadyH.cons (o:=⟨some 58,_,_,_,_,_⟩) rfl (λK c=>?_) AllReadyH.nil));go_simp;refine c.Y _ _ (by first|assumption|exact(aj (ai wc) _).drew.block j F) (λd=>?_);clear c K;refine eQ 6 (λK c=>?_);go_simp;refine c.Y _ _ (by first|assumption|exact(aj (ai wc) _).drew.block j F) (λd=>?_);clear c K;rotate_left;go_simp;refine c.Y _ _ (by first|assumption|exact(aj (ai wc) _).drew.block j F) (λd=>?_);clear c K;refine eQ 4 (λK c=>?_);go_simp;refine c.Y _ _ (by first|assumption|exact(aj (ai wc) _).drew.block j F) (λd=>?_);clear c K;all_goals
     refine eQ 7 (λK c=>?_);refine oV rfl _ _ 61 rfl 66 13 120 _ fI underlying61 py rfl af _ C.N rfl r.ow (λb h=>⟨(r.lt b h).1,(r.lt b h).2.1⟩) _ _ (zh f ⟨m,p⟩) rfl (List.all_eq_true.1 (by rfl)) rfl qa ⟨⟨m,p⟩,rfl,by have h9:=r.q;rw[<-dg.Y]at h9;exact h9⟩ (by have h:=Am.Y;rw[<-Vk.Y]at h;simp;omega) (by have h:=Am.Y;rw[<-Vk.Y]at h;simp;omega) ?_;intro v5 w7 lh pL dJ;obtain⟨B6,d6,vh⟩:=aD.shape lh;obtain⟨l6,Eb⟩:∃l5,l5=(C.N++[f]).length:=⟨_,rfl⟩
     rw[<-Eb]at vh;subst vh;clear Eb;have zJ:w7.heap[j]?=wc.heap[j]?:=(pL.block j (bW F V.size) (λe=>r.gx.1 e.symm)).trans (V.block j F);have sJ:ag w7 x0 86 _:=(pL.block x0 r.kx.lt λe=>r.gx.2.1 e.symm).trans r.kx;obtain⟨IE,b6,FC⟩:=ag.aF sJ;unfold om at IE;have M:=r.gx.2.2;obtain⟨pR,I,iq⟩:=aS lh pL dJ;clear lh pL dJ sJ;refine c.Y _ _ (by first|exact zJ) (λd=>?_);clear c K;refine aU 8 d ?_;refine aU 9 d ?_;refine eQ 10 (λK c=>?_);go_simp;refine c.Y _ _ ((dE w7 ⟨x0,14,none⟩ _ j M).trans zJ) (λd=>?_);clear c K;refine nT ?_;obtain⟨cz,a6⟩:=av (r.app pR I iq) (ag.tA U d);clear d O r l cw cv b7 M qa zJ IE b6 FC pR I iq F V;generalize w7.setCell ⟨x0,14,none⟩ (.slice B6 l6 d6)=w8 at *
    all_goals
     obtain⟨O,Z,Gl⟩:=ag.aF a6;unfold zh at O;go_upto_region 8 with fail
     obtain⟨g,Dc⟩:∃y:Nt,y=⟨3,t,0,C.time,Q,bg 7⟩:=⟨_,rfl⟩
     have cF:ag (ax (w8.setCell ⟨j,0,none⟩ (.int .i64 3)) j 9 [oZ,oZ,.int .i64 7,oZ]) j 66 (zh g ⟨m,p⟩).toArray:=by have h:=a6.Y;rw[cD.Y]at h;rw[Dc];exact((((h.bp 0 _).bp 9 _).bp 10 _).bp 11 _).bp 12 _
     have bz:=((((cz.Rx 0 (.int .i64 3)).Rx 9 oZ).Rx 10 oZ).Rx 11 (.int .i64 7)).Rx 12 oZ;change NS _ _ _ _ _ _ _ _ _ _ _ _ _ (ax (w8.setCell ⟨j,0,none⟩ (.int .i64 3)) j 9 [oZ,oZ,.int .i64 7,oZ])at bz;change Code.wp _ _ _ _ (ax (w8.setCell ⟨j,0,none⟩ (.int .i64 3)) j 9 [oZ,oZ,.int .i64 7,oZ]);obtain⟨a7,a8,SG⟩:=aS bz cF Dc;have dh:Hid (g.aQ.cases=Q.cases):=by unfold Hid;rw[Dc]
     clear bz cF Dc O Z Gl cz a6 T U;generalize ax (w8.setCell ⟨j,0,none⟩ (.int .i64 3)) j 9 [oZ,oZ,.int .i64 7,oZ]=D at *;have F:j<D:=a8.lt;have V:=ae ((aj (ai D) (.cells #[g.kind,g.th,g.seq,g.time,g.aQ.kind,g.aQ.arg,g.aQ.value,g.aQ.dflt,.slice m g.aQ.cases.length p,g.res.seq,g.res.cs,g.res.code,g.res.value] 66)).drew);have r:=ae (a7.more V);have l:D.drew.cell? ⟨x0,14,none⟩=some (.slice B6 l6 d6):=ag.cell a7.kx 14;have cw:(D.alloc (.cells #[g.kind,g.th,g.seq,g.time,g.aQ.kind,g.aQ.arg,g.aQ.value,g.aQ.dflt,.slice m g.aQ.cases.length p,g.res.seq,g.res.cs,g.res.code,g.res.value] 66)).drew.cell? ⟨x0,14,none⟩=some (.slice B6 l6 d6):=ag.cell r.kx 14;have cv:D.cell? ⟨x0,14,none⟩=some (.slice B6 l6 d6):=l;have b7:x0<D:=a7.kx.lt;have qa:Hid (Rd (D.alloc (.cells #[g.kind,g.th,g.seq,g.time,g.aQ.kind,g.aQ.arg,g.aQ.value,g.aQ.dflt,.slice m g.aQ.cases.length p,g.res.seq,g.res.cs,g.res.code,g.res.value] 66)).drew D (zh g ⟨m,p⟩)):=Rd.lit D (zh g ⟨m,p⟩) 66;have O:=λ(v:World) (hx:v.heap[j]?=D.heap[j]?) i=>ag.cell (ag.tA a8 hx) i;unfold zh at O;refine wp_region_held_drew (S:=λv:World=>v.heap[j]?=D.heap[j]?) gG rfl (λd=>?_);refine aU 0 d ?_;refine aU 1 d ?_;refine aU 2 d ?_;refine aU 3 d ?_;refine aU 5 d ?_;refine wpAnyH_ready (rs:=[4,6]) gG aA ?_;refine(AllReadyH.cons (o:=⟨some 69,_,_,_,_,_⟩) rfl (λK c=>?_) (AllReadyH.cons (o:=⟨some 71,_,_,_,_,_⟩) rfl (λK c=>?_) AllReadyH.nil));go_simp;refine c.Y _ _ (by first|assumption|exact(aj (ai D) _).drew.block j F) (λd=>?_);clear c K;refine eQ 6 (λK c=>?_);go_simp;refine c.Y _ _ (by first|assumption|exact(aj (ai D) _).drew.block j F) (λd=>?_);clear c K;rotate_left;go_simp;refine c.Y _ _ (by first|assumption|exact(aj (ai D) _).drew.block j F) (λd=>?_);clear c K;refine eQ 4 (λK c=>?_);go_simp;refine c.Y _ _ (by first|assumption|exact(aj (ai D) _).drew.block j F) (λd=>?_);clear c K;all_goals
      refine eQ 7 (λK c=>?_);refine oV rfl _ _ 61 rfl 66 13 120 _ fI underlying61 py rfl af _ (C.N++[f]) rfl r.ow (λb h=>⟨(r.lt b h).1,(r.lt b h).2.1⟩) _ _ (zh g ⟨m,p⟩) rfl (List.all_eq_true.1 (by rfl)) rfl qa ⟨⟨m,p⟩,rfl,by have h9:=r.q;rw[<-dh.Y]at h9;exact h9⟩ (by have h:=Am.Y;rw[<-Vk.Y]at h;simp;omega) (by have h:=Am.Y;rw[<-Vk.Y]at h;simp;omega) ?_;intro v5 wa lh pL dJ;obtain⟨B9,d9,vh⟩:=aD.shape lh;obtain⟨l9,Eb⟩:∃l5,l5=((C.N++[f])++[g]).length:=⟨_,rfl⟩
      rw[<-Eb]at vh;subst vh;clear Eb;have zJ:wa.heap[j]?=D.heap[j]?:=(pL.block j (bW F V.size) (λe=>r.gx.1 e.symm)).trans (V.block j F);have sJ:ag wa x0 86 _:=(pL.block x0 r.kx.lt λe=>r.gx.2.1 e.symm).trans r.kx;obtain⟨IE,b6,FC⟩:=ag.aF sJ;unfold om at IE;have M:=r.gx.2.2;obtain⟨pR,I,iq⟩:=aS lh pL dJ;clear lh pL dJ sJ;refine c.Y _ _ (by first|exact zJ) (λd=>?_);clear c K;refine aU 8 d ?_;refine aU 9 d ?_;refine eQ 10 (λK c=>?_);go_simp;refine c.Y _ _ ((dE wa ⟨x0,14,none⟩ _ j M).trans zJ) (λd=>?_);clear c K;refine nT ?_;obtain⟨dc,dy⟩:=av (r.app pR I iq) (ag.tA a8 d);clear d O r l cw cv b7 M qa zJ IE b6 FC pR I iq F V;generalize wa.setCell ⟨x0,14,none⟩ (.slice B9 l9 d9)=wb at *
     all_goals
      go_wp2;go_ret;rw[jm.Y,ay HE.Y];obtain⟨Y,h2⟩:=dc.fin Kc KX;refine⟨rfl,_,?_,gV.trans xb h2⟩;rw[cD.Y,SG.Y,List.append_assoc,nj.Y]at Y;exact Y
end
variable[OW]
def II(e:Ev)(z o:Sl):List Value:=[e.kind,e.th,e.aQ.kind,e.aQ.arg,e.aQ.value,e.aQ.dflt,.slice z.A e.aQ.cases.length z.c,e.fG,.slice o.A e.outs.length o.c]
section
variable{q:Nat}
theorem Vm(H:MS w x0 A n k q x s)(e:Ev)(z o:Sl)(t:Nat)(XF:e.th=t)(ht:t<x.T.length)(NF:x.P.length=x.T.length)(ho:bD w .i64 o.A e.outs)(Y:e.outs.length<=9223372036854775807)(V:e.outs.length<=o.c)(MM:0<=x.time/\x.time<=1000000) :
 Calls prog 42 #[.pointer x0,.agg (II e z o).toArray] w λr w'=>r=.returned (.int .i64 (ma x t e.fG e.outs).2)/\zQ x0 A n k q (ma x t e.fG e.outs).1 w s w':=by
 have Vi:t<x.P.length:=by rw[NF];exact ht
 obtain⟨gT,dT,zt,hv,cy,_,_,hc,_⟩:=H.task ht
 obtain⟨gP,dP,zp,W,cv,_,_,_,J,_⟩:=H.IG Vi
 obtain⟨pc,cB⟩:=aw ((cC x t).pc)
 obtain⟨on,jq⟩:=aw ((iW x t).on)
 obtain⟨op,F⟩:=aw (mj e.fG e.outs)
 have a6:Hid (op=none->ma x t e.fG e.outs=(x,15)):=λh=>by unfold ma;rw[<-F,h]
 have tu:Hid (∀p,op=some p->ma x t e.fG e.outs=if x.c.kind≠3\/pc≠0\/on=true then(x,15)else({x with time:=x.time+1,P:=x.P.set t p},0)):=λp h=>by unfold ma;rw[<-F,h,cB,jq]
 obtain⟨M,mn⟩:=aw (w.alloc (.cells #[e.kind,t,e.aQ.kind,e.aQ.arg,e.aQ.value,e.aQ.dflt,.slice z.A e.aQ.cases.length z.c,e.fG,.slice o.A e.outs.length o.c] 60))
 have O:Hid (Below w w M):=by rw[mn];exact aj (ai w) _
 have ik:Hid (ag M w.heap.size 60 #[e.kind,t,e.aQ.kind,e.aQ.arg,e.aQ.value,e.aQ.dflt,.slice z.A e.aQ.cases.length z.c,e.fG,.slice o.A e.outs.length o.c]):=by rw[mn];exact ag.new _ _ _
 have C:=ae (E8 M e.fG o.A e.outs.length o.c e.outs rfl Y V (ho.below O))
 rw[<-F]at C
 unfold PsE nK at C
 have ct:∀f,Below w w f->f.cell? ⟨gT,t*34,none⟩=some (.int .i64 pc):=λf c=>(Below.cell c (bc (hc 0 _ rfl))).trans (by rw[cB];exact hc 0 _ rfl)
 have cp:∀f,Below w w f->f.cell? ⟨gP,t*7,none⟩=some (.bool on):=λf c=>(Below.cell c (bc (J 0 _ rfl))).trans (by rw[jq];exact J 0 _ rfl)
 obtain⟨a7,lC,HV,D,HT,I⟩:=cS ct cp hv W ht Vi
 obtain⟨HH,b7,lW⟩:=aS H MM mn
 have e1:IntKind.i64.wrap (x.time+1)=x.time+1:=bH _ aa
 obtain⟨T,-,L⟩:=ag.aF ik
 unfold II
 rw[XF]
 clear H ho Y V NF hv W hc J ct cp cB jq F mn MM XF
 go_enter func42,ntmps42
 go_upto_region 1 with fail
 rw[<-lW.Y]
 clear lW
 have U:∀w9,Below w w w9->ma x t e.fG e.outs=(x,15)->(Ending.returned (.int .i64 15)=.returned (.int .i64 (ma x t e.fG e.outs).2)/\zQ x0 A n k q (ma x t e.fG e.outs).1 w s w9):=λw9 c e=>by rw[e];exact⟨rfl,zQ.more HH c⟩
 have zw:=ae U
 clear U
 go_wp2_with fail
 refine C.mono ?_
 rintro r g ⟨a,rfl,(eN:Hid _),E⟩
 obtain⟨bB,jw,Vn⟩:=aS (ah O E) (ik.ah E) E
 clear E C T L ik
 rcases op with _|p
 .go_upto_region 2 with fail
  go_quiet(fail);go_wp2;go_ret;exact zw.Y _ (by first|exact aj bB _|exact bZ (aj bB _) _) (a6 (by first|rfl|trivial))
 .have v:=ae (aj bB (.cells #[p.on,p.shut,p.over,p.fG,.slice a.A p.outs.length a.c,p.at_,p.value] 114));dsimp only[Option.getD_some]at eN;obtain⟨l,u⟩:=aw (g.alloc (.cells #[p.on,p.shut,p.over,p.fG,.slice a.A p.outs.length a.c,p.at_,p.value] 114));have oL:=ae u;have Sf:Hid (ag l g.heap.size 114 #[p.on,p.shut,p.over,p.fG,.slice a.A p.outs.length a.c,p.at_,p.value]):=by rw[u];exact ag.new _ _ _
  have gN:Hid (ag l w.heap.size 60 #[e.kind,t,e.aQ.kind,e.aQ.arg,e.aQ.value,e.aQ.dflt,.slice z.A e.aQ.cases.length z.c,e.fG,.slice o.A e.outs.length o.c]):=by rw[u];exact jw.alloc _
  have j5:Hid (dL l (λb=>M.heap.size<=b/\b<l.heap.size) .i64 a.A p.outs/\p.outs.length<=a.c):=by rw[u];exact⟨(eN.1.same λb c=>(aj (ai g) _).block b c.2).mono λb c=>⟨c.1,bW c.2 (aj (ai g) _).size⟩,eN.2⟩
  have b6:Hid (M.heap.size<=g.heap.size):=Vn.size;rw[<-u]at v;have qW:=ae (HH.more v);have Nq:=tu.Y p rfl;have Nw:=ae Nq;have b8:w.heap.size<g.heap.size:=jw.lt;clear u Nq jw eN Vn;go_upto_region 2 with fail
  rw[<-oL.Y];clear oL;obtain⟨y,-,iM⟩:=ag.aF qW.blk;unfold om at y;rw[HV.Y,D.Y]at y;obtain⟨T,-,L⟩:=ag.aF gN;have bz:=a7.Y l v;have a8:=lC.Y l v;have Ck:=HT.Y;have Zx:=I.Y;by_cases P:x.c.kind=3;rotate_left
  .have d1:(x.c.kind !=3)=true:=by simpa using P
   have HK:=ae P;clear P;go_quiet(fail);go_wp2;go_ret;exact zw.Y _ (by first|exact v.Y|exact bZ v _) (by rw[Nw.Y,ay (.inl HK.Y)])
  have d1:(x.c.kind !=3)=false:=by simpa using P
  have HK:=ae P;clear P;by_cases Q:pc=0;rotate_left
  .have d2:(pc !=0)=true:=by simpa using Q
   have HZ:=ae Q;clear Q;go_quiet(fail);go_wp2;go_ret;exact zw.Y _ (by first|exact v.Y|exact bZ v _) (by rw[Nw.Y,ay (.inr (.inl HZ.Y))])
  have d2:(pc !=0)=false:=by simpa using Q
  have HZ:=ae Q;clear Q;cases on with
  |true=>go_quiet(fail);go_wp2;go_ret;exact zw.Y _ (by first|exact v.Y|exact bZ v _) (by rw[Nw.Y,ay (.inr (.inr (by first|rfl|trivial)))])
  |false =>
   go_quiet(fail);have R:Below l l (l.drewN nq):=bZ (ai l) nq;obtain⟨fh,Kc,kG,CX⟩:=bh (bZ v nq) (qW.more R) (gN.ah R) (Sf.ah R);have j7:Hid (dL (l.drewN nq) (λb=>M.heap.size<=b/\b<l.heap.size) .i64 a.A p.outs/\p.outs.length<=a.c):=⟨j5.1.same λb c=>R.block b c.2,j5.2⟩
   have Z:(l.drewN nq).heap.size=l.heap.size:=aA;rw[<-Z]at j7;clear R v qW gN Sf j5 y iM T L bz a8 d1 d2 Z;generalize l.drewN nq=w4 at *;have hU:∀b,s.U x0 b->b<w.heap.size:=λb c=>HH.ul c;have sQ:=hU x0 (.inl (.inl rfl));have HU:=ae hU;have Z2:Hid (∀b,OW.O b->b<w.heap.size):=λb c=>(HH.ol b c).1;obtain⟨y,kf,iM⟩:=ag.aF Kc.blk;unfold om at y;clear hU;go_upto_region 5 with fail
   obtain⟨(rY:Hid _),Ir⟩:=MS.tick Kc (x.time+1);have Za:=kG.b9 (show w.heap.size≠x0 by omega) (.int .i64 (x.time+1)) (p:=⟨x0,18,none⟩);have X6:=CX.b9 (show g.heap.size≠x0 by omega) (.int .i64 (x.time+1)) (p:=⟨x0,18,none⟩);have pR:Hid (dL (w4.setCell ⟨x0,18,none⟩ (.int .i64 (x.time+1))) (λb=>M.heap.size<=b/\b<w4.heap.size) .i64 a.A p.outs/\p.outs.length<=a.c):=⟨j7.1.same λb c=>dE _ _ _ _ (show b≠x0 by have:=c.1;have:=O.size;omega),j7.2⟩
   have aq:(w4.setCell ⟨x0,18,none⟩ (.int .i64 (x.time+1))).heap.size=w4.heap.size:=aA;rw[<-aq]at pR;obtain⟨oc,iA,UE⟩:=aS (gV.trans (gV.ext fh _) Ir) Za X6;clear Ir Za X6 aq y kf iM Kc kG CX j7 fh;generalize w4.setCell ⟨x0,18,none⟩ (.int .i64 (x.time+1))=d at *;obtain⟨m,dQ,zr,G,cw,_,_,_,j,b5⟩:=rY.IG I;have N:=G.symm.trans D;injection N with N
   injection N with N
   injection N with N
   subst N;have c0:=j 0 _ rfl;rw[Nat.add_zero]at c0;have c1:=j 1 _ rfl;have c2:=j 2 _ rfl;have c3:=j 3 _ rfl;have c4:=j 4 _ rfl;have c5:=j 5 _ rfl;have c6:=j 6 _ rfl;have VN:=HU.Y m (.inl (.inr (.inr (.inl (by rw[G];rfl)))));have XE:x0≠m:=λe=>rY.b9.2.1 m (by rw[G];rfl) e.symm;clear G j;have y:=λ(f:World) (X:f.heap[x0]?=d.heap[x0]?/\f.heap[w.heap.size]?=d.heap[w.heap.size]?/\f.heap[g.heap.size]?=d.heap[g.heap.size]?) i=>ag.cell (ag.tA rY.blk X.1) i;unfold om at y;rw[D.Y]at y;have T:=λ(f:World) (X:f.heap[x0]?=d.heap[x0]?/\f.heap[w.heap.size]?=d.heap[w.heap.size]?/\f.heap[g.heap.size]?=d.heap[g.heap.size]?) i=>ag.cell (ag.tA iA X.2.1) i;have aC:=λ(f:World) (X:f.heap[x0]?=d.heap[x0]?/\f.heap[w.heap.size]?=d.heap[w.heap.size]?/\f.heap[g.heap.size]?=d.heap[g.heap.size]?) i=>ag.cell (ag.tA UE X.2.2) i;refine wp_region_held_drew (S:=λf:World=>f.heap[x0]?=d.heap[x0]?/\f.heap[w.heap.size]?=d.heap[w.heap.size]?/\f.heap[g.heap.size]?=d.heap[g.heap.size]?) (by kernel_rfl) ⟨rfl,rfl,rfl⟩ (λB=>?_);refine aU 0 B ?_;refine aU 1 B ?_;refine aU 2 B ?_;refine aU 3 B ?_;refine aU 4 B ?_;refine aU 5 B ?_;refine aU 6 B ?_;refine aU 7 B ?_;(try simp only[aL]);refine eQ 8 (λK hK=>?_);go_simp;have Uc:w.heap.size≠m:=aa;have Ud:g.heap.size≠m:=aa;have hd:∀b,b<d.heap.size->b≠m->(World.drew (ax d m (t*7) [p.on,p.shut,p.over,p.fG,.slice a.A p.outs.length a.c,p.at_,p.value])).heap[b]?=d.heap[b]?:=λb c hn=>((ai (ax d m (t*7) [p.on,p.shut,p.over,p.fG,.slice a.A p.outs.length a.c,p.at_,p.value])).drew.block b (by rw[bO];exact c)).trans (aM hn [p.on,p.shut,p.over,p.fG,.slice a.A p.outs.length a.c,p.at_,p.value] (t*7));have bE:(World.drew (ax d m (t*7) [p.on,p.shut,p.over,p.fG,.slice a.A p.outs.length a.c,p.at_,p.value])).heap[x0]?=d.heap[x0]?/\(World.drew (ax d m (t*7) [p.on,p.shut,p.over,p.fG,.slice a.A p.outs.length a.c,p.at_,p.value])).heap[w.heap.size]?=d.heap[w.heap.size]?/\(World.drew (ax d m (t*7) [p.on,p.shut,p.over,p.fG,.slice a.A p.outs.length a.c,p.at_,p.value])).heap[g.heap.size]?=d.heap[g.heap.size]?:=⟨hd x0 rY.blk.lt XE,hd _ iA.lt Uc,hd _ UE.lt Ud⟩
   change K _ (World.drew (ax d m (t*7) [p.on,p.shut,p.over,p.fG,.slice a.A p.outs.length a.c,p.at_,p.value]));obtain⟨hM,hF⟩:=MS.ZX rY D I p a ⟨pR.1.mono λb c=>⟨c.2,λe=>by have:=HU.Y b (.inr e);have:=c.1;have:=O.size;omega,λe=>by have:=HU.Y b (.inl e);have:=c.1;have:=O.size;omega,λe=>by have:=Z2.Y b e;have:=c.1;have:=O.size;omega⟩,pR.2⟩;obtain⟨CF,vE⟩:=av (hM.more (ai _).drew) (gV.trans hF (gV.ext (ai _).drew _));unfold nK at CF vE;clear hM hF hd;generalize World.drew (ax d m (t*7) [p.on,p.shut,p.over,p.fG,.slice a.A p.outs.length a.c,p.at_,p.value])=w6 at *;refine hK.Y _ _ bE (λB=>?_);clear hK K;(try simp only[aL]);refine wpAnyH_done (by kernel_rfl) ?_ _;clear B;clear c0 c1 c2 c3 c4 c5 c6 b5 y T aC;go_wp2;go_ret;rw[Nw.Y,au (λh=>h.elim (λh=>h HK.Y) λh=>h.elim (λh=>h HZ.Y) λh=>by cases h)];exact⟨rfl,_,CF,gV.trans oc vE⟩
end
section
variable{q:Nat}{r:Mo.Rn}{s:Sh}{N:Int}
theorem IJ(H:RN w X p c A n k t m q r s o)(f:RB c N r)(HM:∀wx mx qx sx u,RN wx X p c A n k t mx qx u sx o->u.k.found=r.k.found->u.k.buf=r.k.buf->u.k.aQ=r.k.aQ->u.k.i=r.k.i->u.k.seq=r.k.seq->Calls prog 154 #[.pointer p] wx (cW X p c A n k t mx qx (Rn.ej c t u) wx))(hN:N<=100000)(hq:q<=900000)(B:r.k.pc=11):Calls prog 106 #[.pointer p] w (cW X p c A n k t m (q+1) (Rn.gi c t r) w):=by
 have Y:=f.k.i.1;have xA:=f.f.a;unfold nh at xA;have sZ:r.k.i<c.threads:=by omega
 have ko:=H.cs.th;have hlen:(r.k.buf.length:Int)=bA c:=by omega
 have S:0<=r.k.dK/\r.k.dK<=100000:=⟨f.k.tr.1,Int.le_trans f.k.tr.2 hN⟩
 obtain⟨W,R⟩:∃W:Nat,r.k.i=W:=⟨r.k.i.toNat,by omega⟩
 have ha:=(dZ H.cs.ee Y sZ).2.2.2.1;obtain⟨HA,CV⟩:=av (λwx=>jV wx H.cs.ee A k n r.k.i Y (by omega)) (λwx (h:RN wx X p c A n k t m q r s o)=>vw wx h.cs.ee h.cs.n h.cf.1 r.k.buf s.bf.A r.k.buf.length s.bf.c rfl hlen h.tk.bf.1 W (R▸sZ) (k:=k));have E:=tO c f.k.buf r.k.i;obtain⟨y,I⟩:∃y,y=l7 c r.k.buf r.k.i:=⟨_,rfl⟩
 obtain⟨x,T⟩:∃x,x=aG r.L (ea c r.k.i):=⟨_,rfl⟩
 rw[<-R, <-I]at CV;rw[<-I]at E;have d:=f.L.at_ (ea c r.k.i);have lF:=ae (λwx (h:RN wx X p c A n k t m q r s o)=>di h hq _ ha.1);rw[<-T]at lF d;have hE:Rn.gi c t r=if Mo.behind x y=false then Rn.ej c t {r with k:={r.k with word:=x}}else({r with k:={r.k with word:=x}}:Rn).pc 12:=by unfold Rn.gi;dsimp only;rw[ay B, <-T, <-I]
 have M:=ae (λwx=>xR wx x y d.1 d.2 E.1 E.2);rw[ze d E]at M;obtain⟨K,HH⟩:=av hE H;obtain⟨P,V,C,b,z⟩:=H.cT;have g:=HH.Y.cx;unfold bI at g;obtain⟨a,F,-⟩:=ag.aF HH.Y.blk;unfold bI at a;rw[B]at a;clear H f hE T I d E ha xA Y sZ ko hlen S R;rcases l:Mo.behind x y with _|_
 all_goals
  first
   |rw[ay l]at K
   |rw[au (by rw[l];decide)]at K
  rw[l]at M;rw[K.Y];go_enter func106,ntmps106;go_wp2_with fail;clear a F;go_region_held3(RX w p m 0 0) (exact gw) (first
   |((with_reducible go_fit (CV.Y _ (by assumption)));rintro e wD ⟨rfl,J⟩;have J4:=RX.below (by assumption) J;(try have Re:=C.Y _ _ (by assumption) J);(try have zb:=b.Y _ _ (by assumption) J)))
  obtain⟨U,sW⟩:=av Re zb;clear g z P V C b J J4 Re zb;have ir:=ae U.Y;obtain⟨P,V,C,b,z⟩:=U.Y.cT;obtain⟨g,q8,kf,iM⟩:=ir.Y.FH 18 19;unfold bI at g;dsimp only at g;rw[B]at g;have a:=λi=>ag.cell U.Y.blk i;unfold bI at a;rw[B]at a;go_wp2_with fail;clear a;go_region_held3(RX wD p m 18 19) (exact gw) (first
   |((with_reducible go_fit (HA.Y _));rintro e wA ⟨rfl,O⟩;have mg:=RX.below (by assumption) O;(try have nG:=C.Y _ _ (by assumption) O);(try have nR:=b.Y _ _ (by assumption) O))
   |((with_reducible go_fit (lF.Y _ (by assumption)));rintro e wC ⟨rfl,Z,Q,G⟩;have jR:=RX.acc (by assumption) ir.Y.blk G (Q.kept G rfl);have eJ:=cP.trans (by assumption) G))
  obtain⟨L,HF⟩:=av Q (sW.Y.trans eJ);clear Q G eJ g q8 kf iM z P V C b jR;have kU:RN (wC.setCell ⟨p,18,none⟩ (.int .u64 x)) X p c A n k t Z (q+1) {r with k:={r.k with word:=x}} s o:=RN.leaf L.Y s o {L.Y.tk with} L.Y.op rfl;obtain⟨H2,oU⟩:=av kU (((gv.refl wC p).set 18 (.int .u64 x)).fr Z);clear kU;generalize(wC.setCell ⟨p,18,none⟩ (.int .u64 x))=w2 at *;obtain⟨a,F,z⟩:=ag.aF H2.Y.blk;unfold bI at a;dsimp only at a;go_wp2_with fail;(with_reducible go_fit (M.Y _));rintro e w4 ⟨rfl,j⟩;obtain⟨D,xb⟩:=av (H2.Y.more j) ((HF.Y.trans oU.Y).trans (cP.ext j p Z));clear j a F z;obtain⟨a,F,z⟩:=ag.aF D.Y.blk;unfold bI at a;dsimp only at a;rw[B]at a;go_wp2_with fail
 .go_fit (HM _ _ _ _ _ D.Y rfl rfl rfl rfl rfl);rintro e w3 ⟨rfl,(HX:Hid _)⟩;go_wp2;refine bodyPost_ret (v:=.tuple #[]) (by simp[results,results106,go_sem]) rfl ?_;exact cW.then xb.Y ⟨rfl,HX.Y⟩
 .go_end0;refine cW.then xb.Y ?_;exact cW.leaf D.Y s o {D.Y.tk with} D.Y.op rfl
theorem IK(H:RN w X p c A n k t m q r s o)(l:RB c N r)(HM:∀wx mx qx sx g,RN wx X p c A n k t mx qx g sx o->g.k.found=r.k.found->g.k.buf=r.k.buf->g.k.aQ=r.k.aQ->g.k.i=r.k.i->g.k.seq=r.k.seq->Calls prog 154 #[.pointer p] wx (cW X p c A n k t mx qx (Rn.ej c t g) wx))(hN:N<=100000)(hq:q<=900000)(C:r.k.pc=12):Calls prog 106 #[.pointer p] w (cW X p c A n k t m (q+1) (Rn.gi c t r) w):=by
 have Y:=l.k.i.1;have xA:=l.f.a;unfold nh at xA;have Z:r.k.i<c.threads:=by omega
 have ko:=H.cs.th;have hlen:(r.k.buf.length:Int)=bA c:=by omega
 have aq:0<=r.k.dK/\r.k.dK<=100000:=⟨l.k.tr.1,Int.le_trans l.k.tr.2 hN⟩
 obtain⟨W,S⟩:∃W:Nat,r.k.i=W:=⟨r.k.i.toNat,by omega⟩
 have Q:=(dZ H.cs.ee Y Z).2.2.2.1;obtain⟨HA,CV⟩:=av (λwx=>jV wx H.cs.ee A k n r.k.i Y (by omega)) (λwx (h:RN wx X p c A n k t m q r s o)=>vw wx h.cs.ee h.cs.n h.cf.1 r.k.buf s.bf.A r.k.buf.length s.bf.c rfl hlen h.tk.bf.1 W (S▸Z) (k:=k));have vL:=tO c l.k.buf r.k.i;obtain⟨y,E⟩:∃y,y=l7 c r.k.buf r.k.i:=⟨_,rfl⟩
 obtain⟨x,T⟩:∃x,x=aG r.L (ea c r.k.i):=⟨_,rfl⟩
 rw[<-S, <-E]at CV;rw[<-E]at vL;have G:=ae (λwx (h:RN wx X p c A n k t m q r s o)=>oT h hq (ea c r.k.i) r.k.word y Q.1 Q.2);rw[<-T]at G;have P:Rn.gi c t r=if x=r.k.word\/r.k.dK+1=2 then Rn.ej c t {(if x=r.k.word then r.store (ea c r.k.i) y else r)with k:={r.k with dK:=r.k.dK+1}}else({(if x=r.k.word then r.store (ea c r.k.i) y else r)with k:={r.k with dK:=r.k.dK+1}}:Rn).pc 11:=by unfold Rn.gi;dsimp only;rw[au (by omega), <-T, <-E]
 obtain⟨J,z⟩:∃J,(if x=r.k.word then r.store (ea c r.k.i) y else r)={r with L:=J}:=by
  split
  .exact⟨_,rfl⟩
  .exact⟨r.L,rfl⟩
 rw[z]at P G;have I:=ae P;obtain⟨b,R⟩:∃b,b=(x==r.k.word):=⟨_,rfl⟩
 have u9:b=true↔x=r.k.word:=by rw[R,beq_iff_eq]
 rw[<-R]at G;obtain⟨Np,HH⟩:=av u9 H;obtain⟨L,V,v,d,j⟩:=H.cT;have f:=HH.Y.cx;unfold bI at f;obtain⟨a,i,-⟩:=ag.aF HH.Y.blk;unfold bI at a;rw[C]at a;clear H l P T E vL Q xA Y Z ko hlen S z R u9;go_enter func106,ntmps106;go_wp2_with fail;clear a i;go_region_held3(RX w p m 0 0) (exact gw) (first
  |((with_reducible go_fit (CV.Y _ (by assumption)));rintro e wD ⟨rfl,F⟩;have J4:=RX.below (by assumption) F;(try have Re:=v.Y _ _ (by assumption) F);(try have zb:=d.Y _ _ (by assumption) F)))
 obtain⟨U,sW⟩:=av Re zb;clear f j L V v d F J4 Re zb;have ir:=ae U.Y;obtain⟨L,V,v,d,j⟩:=U.Y.cT;have f:=ir.Y.cx;unfold bI at f;dsimp only at f;rw[C]at f;obtain⟨a,i,-⟩:=ag.aF U.Y.blk;unfold bI at a;rw[C]at a;go_wp2_with fail;clear a i;go_region_held3(RX wD p m 0 0) (exact gw) (first
  |((with_reducible go_fit (HA.Y _));rintro e wA ⟨rfl,K⟩;have mg:=RX.below (by assumption) K;(try have nG:=v.Y _ _ (by assumption) K);(try have nR:=d.Y _ _ (by assumption) K))
  |((with_reducible go_fit (G.Y _ (by assumption)));rintro e wC ⟨rfl,mC,O,D⟩;have jR:=RX.acc (by assumption) ir.Y.blk D (O.kept D rfl);have eJ:=cP.trans (by assumption) D))
 all_goals
  obtain⟨B,HF⟩:=av O (sW.Y.trans eJ);clear O D eJ f j L V v d jR;obtain⟨a,i,j⟩:=ag.aF B.Y.blk;unfold bI at a;dsimp only at a;rw[C]at a;go_upto_region 8 with fail
  clear a i j;have kU:RN (wC.setCell ⟨p,11,none⟩ (.int .i64 (r.k.dK+1))) X p c A n k t mC (q+1) {r with L:=J,k:={r.k with dK:=r.k.dK+1}} s o:=RN.leaf B.Y s o {B.Y.tk with} B.Y.op rfl;obtain⟨H2,oU⟩:=av kU (((gv.refl wC p).set 11 (.int .i64 (r.k.dK+1))).fr mC);clear kU;generalize(wC.setCell ⟨p,11,none⟩ (.int .i64 (r.k.dK+1)))=w2 at *;obtain⟨a,i,j⟩:=ag.aF H2.Y.blk;unfold bI at a;dsimp only at a;rcases b with _|_
  .by_cases u:r.k.dK+1=2
   .have M:(r.k.dK+1==2)=true:=by rw[u];rfl
    have iY:=ae (I.Y.trans (ay (.inr u)));clear u;exact ace
   .have M:(r.k.dK+1==2)=false:=by rw[dp];exact u
    have iY:=ae (I.Y.trans (au (λh=>h.elim (λe=>absurd (Np.Y.2 e) (by decide)) u)));clear u;go_wp2;go_end0;rw[iY.Y];refine cW.then (HF.Y.trans oU.Y) ?_;exact cW.leaf H2.Y s o {H2.Y.tk with} H2.Y.op rfl
  .have iY:=ae (I.Y.trans (ay (.inl (Np.Y.1 rfl))));exact ace
theorem CK(H:RN w X p c A n k t m q r s o)(d:RB c N r)(f:∀wx b e i a,RN wx X p c A n k t b e a i o->a.k.found=r.k.found->a.k.buf=r.k.buf->a.k.aQ=r.k.aQ->a.k.i=r.k.i->a.k.seq=r.k.seq->Calls prog 154 #[.pointer p] wx (cW X p c A n k t b e (Rn.ej c t a) wx))(g:N<=100000)(l:q<=900000)(u:11<=r.k.pc)(z:r.k.pc<=12):Calls prog 106 #[.pointer p] w (cW X p c A n k t m (q+1) (Rn.gi c t r) w):=by
 rcases(by omega:r.k.pc=11\/r.k.pc=12)with h|h
 .exact IJ H d f g l h
 .exact IK H d f g l h
theorem aD.ge{m:Nat}{P:ux α}{S:Nat->Prop}{c:Nat}(h:aD e m P w base S (.slice A n c) xs):∀k,(Value.slice A n c).ownBlock=some k->base<=k:=by
 intro k a;cases A with
 |none=>cases a
 |some b=>have:=(aD.lt h rfl).1;injection a with a;subst a;exact this
theorem RX.same{arr:Array Value}(h:ag w p 179 arr)(m:Mm)(lo hi:Nat):RX w p m lo hi w:=⟨Below.refl 0 w,λ_ _ _ _=>rfl,arr,arr,h,h,rfl,λ_ _=>rfl⟩
theorem aD.op{S:Nat->Prop}{c:Nat}{d:List Mo.Op}(h:aD 40 8 FD w1 base S (.slice A n c) d)(l:∀b,S b->S' b)(f:∀b,base<=b->b<w1.heap.size->S' b):n=d.length/\d.length<=c/\rN w1 S' A d:=by
 obtain⟨j,m,i,e,g⟩:=h.rdX;injection i with h1 h2 h3
 subst h1 h3;exact⟨h2,e,g.mono jz l,λk a _=>by subst a;exact f _ (aD.lt h rfl).1 (aD.lt h rfl).2⟩
theorem Aq(H:RN w X p c A n k t m q r s o)(kK:0<=r.k.i)(sZ:r.k.i<c.threads)(Wq:(r.k.found.length:Int)<=c.threads)(a8:∀x∈r.k.found,x.aQ.cases.length<=3)(a6:(r.k.buf.length:Int)=bA c)(a7:fV r.k.buf)(b5:r.k.aQ.cases.length<=3):Calls prog 154 #[.pointer p] w (cW X p c A n k t m q (Rn.ej c t r) w):=by
 have ko:=H.cs.th;have Ce:Hid (r.k.found.length<=4):=by unfold Hid;omega
 obtain⟨np,fW,b6,W,HH⟩:=bQ a8 a6 a7 b5 H;have g:=H.lt;obtain⟨f,v,-⟩:=ag.aF HH.Y.blk;unfold bI at f;clear H a8 a6 a7 b5 Wq;by_cases bz:r.k.i+1<c.threads
 .have hE:Rn.ej c t r={r with k:={r.k with i:=r.k.i+1,dK:=0,pc:=11}}:=by unfold Rn.ej;rw[ay bz]
  rw[hE];clear hE;go_enter func154,ntmps154;go_upto_region 3 with fail
  clear f v g;have kU:RN (((w.setCell ⟨p,9,none⟩ (.int .i64 (r.k.i+1))).setCell ⟨p,11,none⟩ oZ).setCell ⟨p,0,none⟩ (.int .i64 11)) X p c A n k t m q {r with k:={r.k with i:=r.k.i+1,dK:=0,pc:=11}} s o:=RN.leaf HH.Y s o {HH.Y.tk with} HH.Y.op rfl;obtain⟨O,oU⟩:=av kU (((((gv.refl w p).set 9 (.int .i64 (r.k.i+1))).set 11 oZ).set 0 (.int .i64 11)).fr m);clear kU;generalize(((w.setCell ⟨p,9,none⟩ (.int .i64 (r.k.i+1))).setCell ⟨p,11,none⟩ oZ).setCell ⟨p,0,none⟩ (.int .i64 11))=w2 at *;obtain⟨f,v,g⟩:=ag.aF O.Y.blk;unfold bI at f;dsimp only at f;go_wp2_with fail;go_quiet(fail);go_wp2;go_end0;exact⟨rfl,_,_,_,O.Y.more (bZ (ai _) _),oU.Y.trans (cP.ext (bZ (ai _) _) p m)⟩
 .have iY:Hid (Rn.ej c t r={r with k:={r.k with dK:=0,found:=km r.k.found++(if r.k.p5=true then[]else[⟨t,r.k.seq,0,r.k.aQ⟩]),next:=pZ c r.k.buf (km r.k.found++(if r.k.p5=true then[]else[⟨t,r.k.seq,0,r.k.aQ⟩])),i:=0,pc:=13}}):=by unfold Hid Rn.ej;rw[au bz]
  go_enter func154,ntmps154;go_upto_region 3 with fail
  clear f v g;have kU:RN (((w.setCell ⟨p,9,none⟩ (.int .i64 (r.k.i+1))).setCell ⟨p,11,none⟩ oZ).setCell ⟨p,0,none⟩ (.int .i64 11)) X p c A n k t m q {r with k:={r.k with i:=r.k.i+1,dK:=0,pc:=11}} s o:=RN.leaf HH.Y s o {HH.Y.tk with} HH.Y.op rfl;obtain⟨O,oU⟩:=av kU (((((gv.refl w p).set 9 (.int .i64 (r.k.i+1))).set 11 oZ).set 0 (.int .i64 11)).fr m);clear kU;generalize(((w.setCell ⟨p,9,none⟩ (.int .i64 (r.k.i+1))).setCell ⟨p,11,none⟩ oZ).setCell ⟨p,0,none⟩ (.int .i64 11))=w2 at *;obtain⟨f,v,g⟩:=ag.aF O.Y.blk;unfold bI at f;dsimp only at f;go_wp2_with fail;go_quiet(fail);obtain⟨V,ZJ⟩:=av (λnq=>O.Y.more (bZ (ai w2) nq)) (λnq=>oU.Y.trans (cP.ext (bZ (ai w2) nq) p m));clear f v g;generalize Z4:World.drewN w2 _=L;have l:Hid (RN L X p c A n k t m q {r with k:={r.k with i:=r.k.i+1,dK:=0,pc:=11}} s o):=by rw[<-Z4];exact V.Y _
  have R:Hid (cP w L p m m):=by rw[<-Z4];exact ZJ.Y _
  clear Z4 V ZJ;obtain⟨f,v,g⟩:=ag.aF l.Y.blk;unfold bI at f;dsimp only at f;have U:=ae (Ib L r.k.found s.fo.A r.k.found.length s.fo.c rfl (bm Ce.Y (by decide)) (S:=Im L X p m) (λb z=>z.1) l.Y.tk.fo.1);go_wp2_with fail;(with_reducible go_fit U.Y);rintro e M ⟨B3,d3,rfl,pT,(y:Hid _)⟩;have j5:=ae pT;obtain⟨rows,q1,q2,q3⟩:=pT;clear U f v g;have f:=λi=>ag.cell (l.Y.more y.Y).blk i;have v:=λi=>ag.free (l.Y.more y.Y).blk i;have g:=(l.Y.more y.Y).lt;unfold bI at f;dsimp only at f;rcases hs:r.k.p5 with _|_
  case' true =>
   clear q1 q2 q3;go_upto_region 7 with fail
   obtain⟨E,rfl⟩:∃E,E=M:=⟨_,rfl⟩
   obtain⟨B,rfl⟩:∃B,B=B3:=⟨_,rfl⟩
   obtain⟨d5,rfl⟩:∃d5,d5=d3:=⟨_,rfl⟩
   obtain⟨j,D,K⟩:=j5.Y.op (S':=Im E X p m) (λb z=>(cP.ext y.Y p m).im z) (λb h0 j=>Im.fresh l.Y h0 j);obtain⟨a,d⟩:∃a,a=km r.k.found:=⟨_,rfl⟩
   have Bu:Hid (a=km r.k.found++(if r.k.p5=true then[]else[⟨t,r.k.seq,0,r.k.aQ⟩])):=by unfold Hid;rw[d,ay hs,List.append_nil]
   rw[<-d]at j D K;rw[j];obtain⟨G,Gk,u,F⟩:=bh K D (l.Y.more y.Y) (R.Y.trans (cP.ext y.Y p m));clear j D K d j5
  case' false =>
   have gO:=ae q2;have C0:Hid (rows.length<=100):=by unfold Hid;rw[q1];have D:(km r.k.found).length=r.k.found.length:=jl _ _;have:=Ce.Y;omega
   have T:=ae j5.Y.ge;have qa:Hid (∀wd:World,cN (wd.alloc (.cells #[t,r.k.seq,oZ,r.k.aQ.kind,r.k.aQ.arg,r.k.aQ.value,r.k.aQ.dflt,.slice s.cs.A r.k.aQ.cases.length s.cs.c] 40)) dF wd [jJ wE iE jP (⟨⟨t,r.k.seq,0,r.k.aQ⟩,s.cs.A,s.cs.c⟩:yP)]):=λwd=>Rd.lit wd (wE (⟨⟨t,r.k.seq,0,r.k.aQ⟩,s.cs.A,s.cs.c⟩:yP)) 40;obtain⟨gD,iG⟩:=av q1 q3;clear q1 q2 q3;go_wp2_with fail;clear f v g;have g:=(l.Y.more y.Y).lt;have xq:=((RX.same l.Y.blk m 0 0).below y.Y)
   have I:=λwx (C:RX L p m 0 0 wx) i=>C.cell l.Y.blk (i:=i) (.inr (aZ _));unfold bI at I;dsimp only at I;go_region_held3(RX L p m 0 0) (with_reducible(repeat(first|assumption|exact xq.below (ai M).drew|exact xq.below (aj (ai M) _).drew|refine RX.alloc ?_ _))) ((refine gf rfl _ _ 32 rfl L 40 8 80 (.agg #[oZ,oZ,oZ,oZ,oZ,oZ,false,oN]) dF bY eU underlying32 nc rfl (by decide) _ rows rfl (gO.Y.ah (aj (ai M) _).drew) M 1 1 [jJ wE iE jP (⟨⟨t,r.k.seq,0,r.k.aQ⟩,s.cs.A,s.cs.c⟩:yP)] rfl rfl ((qa.Y M).below (ai _).drew) ?_ ?_ ?_ ?_;(have j:=C0.Y;simp only[iw];omega);(have j:=C0.Y;simp only[iw];omega);(have j:=y.Y.size;simp;omega);intro v4 E dm bE ct;clear ct;obtain⟨B,d5,b8⟩:=dm.shape;subst b8;have J:=(aj y.Y _).drew.grown bE (by simp;have:=y.Y.size;omega) T.Y;have Hw:=(RX.same l.Y.blk m 0 0).below J));obtain⟨u,F⟩:=av (l.Y.more J) (R.Y.trans (cP.ext J p m));have aq:=aD.app jz gD.Y iG.Y (λb z=>(J.block b z.1).trans (y.Y.block b z.1).symm) dm (x:=⟨t,r.k.seq,0,r.k.aQ⟩) ⟨s.cs.A,s.cs.c,rfl,l.Y.tk.cs.same (λb z=>J.block b z.1)⟩;obtain⟨j,D,K⟩:=aq.op (S':=Im E X p m) (λb z=>(cP.ext J p m).im z) (λb h0 j=>Im.fresh l.Y h0 j);obtain⟨a,d⟩:∃a,a=km r.k.found++[⟨t,r.k.seq,0,r.k.aQ⟩]:=⟨_,rfl⟩
   have Bu:Hid (a=km r.k.found++(if r.k.p5=true then[]else[⟨t,r.k.seq,0,r.k.aQ⟩])):=by unfold Hid;rw[d,au (by rw[hs];decide)]
   rw[<-d]at j D K;have hL:rows.length+1=a.length:=by rw[d,fM,iw,gD.Y]
   (try rw[j]);(try rw[hL]);have HL:=ae hL;clear hL;obtain⟨G,Gk⟩:=av K D;clear j D K d j5 aq dm bE J Hw xq I g T qa gD gO iG C0;obtain⟨f,v,g⟩:=ag.aF u.Y.blk;unfold bI at f;dsimp only at f
  all_goals
   have Z2:Hid (a.length<=100):=by unfold Hid;rw[Bu.Y,fM];have j:=Ce.Y;have D:(km r.k.found).length=r.k.found.length:=jl _ _;split<;>simp only[List.length_nil,iw]<;>omega
   have Nl:Hid (∀x∈a,x.aQ.cases.length<=100000):=by
    intro x C;rw[Bu.Y]at C;rcases List.mem_append.1 C with C|C
    .exact bm (np.Y x (mK _ _ C)) (by decide)
    .split at C;all_goals first
      |(cases C;done)
      |(rw[List.mem_singleton]at C;subst C;exact bm W.Y (by decide))
   clear Ce np W;go_upto_region 8 with fail
   (try rw[HL.Y]);clear f v g;have Z:RN (E.setCell ⟨p,20,none⟩ (.slice B a.length d5)) X p c A n k t m q {r with k:={r.k with i:=r.k.i+1,dK:=0,pc:=11,found:=a}} {s with fo:=⟨B,d5⟩} o:=RN.leaf u.Y {s with fo:=⟨B,d5⟩} o {u.Y.tk with fo:=G.Y,lf:=Gk.Y} u.Y.op rfl;obtain⟨H6,N⟩:=av Z (((gv.refl E p).set 20 (.slice B a.length d5)).fr m);clear Z;generalize(E.setCell ⟨p,20,none⟩ (.slice B a.length d5))=w6 at *;have C7:=ae (F.Y.trans N.Y);clear u F N G Gk;have P:=ae (λwx (h:RN wx X p c A n k t m q {r with k:={r.k with i:=r.k.i+1,dK:=0,pc:=11,found:=a}} {s with fo:=⟨B,d5⟩} o)=>QC wx h.cs.ee h.cs.k3 (by have:=h.cs.th;omega) h.cs.n h.cf.1 r.k.buf s.bf.A r.k.buf.length s.bf.c rfl fW.Y b6.Y h.tk.bf.1 a B a.length d5 rfl (bm Z2.Y (by decide)) (S:=Im wx X p m) (λb z=>z.1) h.tk.fo.1 Nl.Y (k:=k));obtain⟨nl,ND⟩:∃nl,nl=pZ c r.k.buf a:=⟨_,rfl⟩
   rw[<-ND]at P;have Xj:=ae ND;clear ND;have ir:=ae H6.Y;obtain⟨gq,ij,dA,Q,g⟩:=H6.Y.cT;obtain⟨I,q8,kf,iM⟩:=ir.Y.FH 17 18;unfold bI at I;dsimp only at I;go_wp2;go_region_held3(RX w6 p m 17 18) (exact gw) (first
    |((with_reducible go_fit (P.Y _ (by assumption)));rintro e w7 ⟨B7,d7,rfl,YJ,qU⟩;have E3:=RX.below (by assumption) qU;have Ru:=dA.Y _ _ (by assumption) qU;have Vg:=Q.Y _ _ (by assumption) qU;have Y:=YJ.pw))
   obtain⟨Ai,vE⟩:=av Ru (C7.Y.trans Vg);have b7:Hid (dL w7 (Im w7 X p m) .u64 B7 nl):=⟨Y.2,λad ha _=>by subst ha;exact Im.fresh H6.Y (bk YJ rfl).1 (bk YJ rfl).2⟩
   clear I q8 kf iM g E3 Ru Vg qU YJ Y gq ij dA Q;obtain⟨f,v,g⟩:=ag.aF Ai.Y.blk;unfold bI at f;dsimp only at f;go_wp2;go_end0;rw[iY.Y, <-Bu.Y, <-Xj.Y];refine cW.then vE.Y ?_;exact cW.leaf Ai.Y {s with fo:=⟨B,d5⟩,nx:=⟨B7,d7⟩} o {Ai.Y.tk with nx:=b7.Y} Ai.Y.op rfl
theorem IL(H:RN w X p c A n k t m q r s o)(G:RB c N r)(T:N<=90000)(hq:q<=900000)(R:r.k.pc=24):Calls prog 110 #[.pointer (some ⟨p,0,none⟩)] w (cW X p c A n k t m (q+1) (Rn.dX c t r) w):=by
 have C:=(G.L.at_ 1).1;have L:=G.g.1;have lF:=ae (di H hq 1 (by decide));have Q:Rn.dX c t r=if Mo.needs (gL r.k.aJ (aG r.L 1)) c.aP=false then Rn.eY c {r with k:={r.k with word:=aG r.L 1,aJ:=gL r.k.aJ (aG r.L 1),i:=0,all:=true,pc:=25}}else{r with k:={r.k with word:=aG r.L 1,aJ:=gL r.k.aJ (aG r.L 1),i:=0,all:=true,pc:=25}}:=by unfold Rn.dX;rw[ay R]
 obtain⟨x,hx⟩:∃x,x=aG r.L 1:=⟨_,rfl⟩
 rw[<-hx]at lF C L Q;have Ny:IntKind.i64.wrap x=x:=kD C (by omega);have Y:=ae (λF g (h:RN F X p c A n k t g (q+1) {r with k:={r.k with word:=x}} s o)=>vX F r.k.aJ s.fr.A s.fr.c s.ol.A s.ol.c x (by omega) (h.pls G.k.aJ (Int.le_trans T (by decide))));unfold mo at Y;have Z:PB (bX c) N (gL r.k.aJ x):=rA G.k.aJ _;obtain⟨a,sF⟩:∃a,a=gL r.k.aJ x:=⟨_,rfl⟩
 rw[<-sF]at Y Z Q;obtain⟨HE,Df,CD⟩:=aS Q Z R;have Am:Hid (N<=100000):=Int.le_trans T (by decide);obtain⟨M9,HH⟩:=av T H;have f:=H.lt;obtain⟨aC,D,-⟩:=ag.aF HH.Y.blk;unfold bI at aC;rw[R]at aC;clear H Q hx G C L T sF Z R;go_enter func110,ntmps110;go_wp2_with fail;(with_reducible go_fit lF.Y);rintro e w1 ⟨rfl,g,(U:Hid _),F1⟩;have uB:=ae F1;clear F1 aC D f HH;obtain⟨aC,D,f⟩:=ag.aF U.Y.blk;unfold bI at aC;dsimp only at aC;rw[CD.Y]at aC;go_upto_region 4 with fail
 clear aC D f;have kU:RN (w1.setCell ⟨p,18,none⟩ (.int .u64 x)) X p c A n k t g (q+1) {r with k:={r.k with word:=x}} s o:=RN.leaf U.Y s o {U.Y.tk with} U.Y.op rfl;obtain⟨O,oU⟩:=av kU (((gv.refl w1 p).set 18 (.int .u64 x)).fr g);clear kU;generalize(w1.setCell ⟨p,18,none⟩ (.int .u64 x))=E at *;have ir:=ae O.Y;obtain⟨gq,ij,I,d,f⟩:=O.Y.cT;obtain⟨B,q8,kf,iM⟩:=ir.Y.FH 22 27;unfold bI at B;dsimp only at B;have aC:=λi=>ag.cell O.Y.blk i;unfold bI at aC;dsimp only at aC;go_wp2_with fail;have Xo:E.drew.cell? ⟨p,22,none⟩=some (.int .i64 r.k.aJ.own.ix):=aC 22;have Xq:E.drew.cell? ⟨p,23,none⟩=some (.int .i64 r.k.aJ.own.tag):=aC 23;have Xr:E.drew.cell? ⟨p,24,none⟩=some (.slice s.fr.A r.k.aJ.free.length s.fr.c):=aC 24;have Xs:E.drew.cell? ⟨p,25,none⟩=some (.slice s.ol.A r.k.aJ.old.length s.ol.c):=aC 25;have Xt:E.drew.cell? ⟨p,26,none⟩=some (.int .i64 r.k.aJ.spent):=aC 26;clear aC;refine wp_region_held_drew (S:=(RX E p g 22 27)) (by kernel_rfl) (RX.start ir.Y.blk _ _ _) (λhHeld=>?_);refine aU 0 hHeld ?_;refine aU 1 hHeld ?_;refine aU 2 hHeld ?_;refine aU 3 hHeld ?_;refine aU 4 hHeld ?_;refine aU 6 hHeld ?_;refine aU 7 hHeld ?_;refine aU 8 hHeld ?_;refine aU 9 hHeld ?_;refine aU 10 hHeld ?_;refine aU 11 hHeld ?_;(try simp only[aL]);refine eQ 5 (λK u=>?_);go_simp;refine u.Y _ _ gw (λhHeld=>?_);clear u K;(try simp only[aL]);refine eQ 12 (λK u=>?_);go_simp;((rw[gp Xo,gp Xq,gp Xr,gp Xs,gp Xt]);(with_reducible go_fit (Y.Y _ _ (by assumption)));rintro e M ⟨v,z,rfl,j,y,l,d1,rfl,fe,gA,V⟩;unfold mo;have J4:=RX.below (by assumption) V;have hD:=I.Y _ _ (by assumption) V;have zb:=d.Y _ _ (by assumption) V);go_wp2_with fail;refine u.Y _ _ gw (λhHeld=>?_);clear u K;(try simp only[aL]);refine aU 13 hHeld ?_;refine aU 14 hHeld ?_;refine aU 15 hHeld ?_;refine aU 16 hHeld ?_;refine aU 17 hHeld ?_;refine aU 18 hHeld ?_;(try simp only[aL]);refine eQ 19 (λK u=>?_);go_simp;refine u.Y _ _ gw (λhHeld=>?_);clear u K;(try simp only[aL]);refine wpAnyH_done (by kernel_rfl) ?_ _;obtain⟨kG,xb⟩:=av hD ((uB.Y.trans oU.Y).trans zb);have rJ:Hid (oh M (Im M X p g) {r.k with word:=x,aJ:=a} {s with fr:=⟨j,y⟩,ol:=⟨l,d1⟩}):=wU.tk hD.tk fe gA (λb h0 h1=>Im.fresh O.Y h0 h1) _ rfl;clear B q8 kf iM f Xo Xq Xr Xs Xt hHeld gq ij I d V J4 hD zb fe gA;obtain⟨aC,D,f⟩:=ag.aF kG.Y.blk;unfold bI at aC;dsimp only at aC;go_upto_region 6 with fail
 clear aC D f;have Hr:RN ((((((((M.setCell ⟨p,22,none⟩ (.int .i64 a.own.ix)).setCell ⟨p,23,none⟩ (.int .i64 a.own.tag)).setCell ⟨p,24,none⟩ (.slice j a.free.length y)).setCell ⟨p,25,none⟩ (.slice l a.old.length d1)).setCell ⟨p,26,none⟩ (.int .i64 a.spent)).setCell ⟨p,9,none⟩ (.int .i64 0)).setCell ⟨p,13,none⟩ (.bool true)).setCell ⟨p,0,none⟩ (.int .i64 25)) X p c A n k t g (q+1) {r with k:={r.k with word:=x,aJ:=a,i:=0,all:=true,pc:=25}} {s with fr:=⟨j,y⟩,ol:=⟨l,d1⟩} o:=RN.leaf kG.Y {s with fr:=⟨j,y⟩,ol:=⟨l,d1⟩} o {rJ.Y with} kG.Y.op rfl;obtain⟨H5,W⟩:=av Hr ((((((((((gv.refl M p).set 22 (.int .i64 a.own.ix)).set 23 (.int .i64 a.own.tag)).set 24 (.slice j a.free.length y)).set 25 (.slice l a.old.length d1)).set 26 (.int .i64 a.spent)).set 9 (.int .i64 0)).set 13 (.bool true)).set 0 (.int .i64 25)).fr g);clear Hr;generalize((((((((M.setCell ⟨p,22,none⟩ (.int .i64 a.own.ix)).setCell ⟨p,23,none⟩ (.int .i64 a.own.tag)).setCell ⟨p,24,none⟩ (.slice j a.free.length y)).setCell ⟨p,25,none⟩ (.slice l a.old.length d1)).setCell ⟨p,26,none⟩ (.int .i64 a.spent)).setCell ⟨p,9,none⟩ (.int .i64 0)).setCell ⟨p,13,none⟩ (.bool true)).setCell ⟨p,0,none⟩ (.int .i64 25))=w5 at *;have oc:=ae (xb.Y.trans W.Y);clear ir;have ir:=ae H5.Y;obtain⟨gq,ij,I,d,f⟩:=H5.Y.cT;have B:=ir.Y.cx;unfold bI at B;dsimp only at B;have nV:=ae (λF=>rE F a j y l d1 c.aP);unfold mo at nV;obtain⟨nd,J⟩:∃nd,nd=Mo.needs a c.aP:=⟨_,rfl⟩
 rw[<-J]at nV HE;have HSC:=ae (λF (h:RN F X p c A n k t g (q+1) {r with k:={r.k with word:=x,aJ:=a,i:=0,all:=true,pc:=25}} {s with fr:=⟨j,y⟩,ol:=⟨l,d1⟩} o)=>mz h Df.Y Am.Y);clear J;go_wp2_with fail;go_region_held3(RX w5 p g 0 0) (exact gw) (first
  |((with_reducible go_fit (nV.Y _));rintro e wN ⟨rfl,P⟩;have aq:=RX.below (by assumption) P;(try have XG:=I.Y _ _ (by assumption) P);(try have XH:=d.Y _ _ (by assumption) P)))
 obtain⟨Ab,Xl⟩:=av XG (oc.Y.trans XH);clear B f gq ij I d P aq XG XH;obtain⟨aC,D,f⟩:=ag.aF Ab.Y.blk;unfold bI at aC;exact Rz
theorem IM(H:RN w X p c A n k t m q r s o)(l:RB c N r)(M:N<=90000)(hq:q<=900000)(J:r.k.pc=26):Calls prog 110 #[.pointer (some ⟨p,0,none⟩)] w (cW X p c A n k t m (q+1) (Rn.dX c t r) w):=by
 have xA:=l.f.a;unfold nh at xA;have Ny:IntKind.i64.wrap r.k.word=r.k.word:=kD l.k.word.1 (by omega);have K:(1:Int)<bG c:=by have h:=(dZ H.cs.ee H.cs.t0 H.cs.t1).1.2;have:=H.cs.t0;unfold pg at h;omega
 have a7:r.k.word<=N:=by omega
 have a6:=l.k.word.1;have e2:IntKind.u64.wrap r.k.word=r.k.word:=Br l.k.word.1 (by omega);have e3:IntKind.u64.wrap (r.k.word+1)=r.k.word+1:=Br (by have:=l.k.word.1;omega) (by omega);have e4:IntKind.i64.wrap (r.k.word+1)=r.k.word+1:=kD (by have:=l.k.word.1;omega) (by omega);have L:Rn.dX c t r=(let r1:Rn:={(if aG r.L 1=r.k.word then{r.store 1 (r.k.word+1)with k:={r.k with aJ:=gL r.k.aJ (r.k.word+1)}}else r)with};let r2:=r1.pc 27;if Mo.needs r2.k.aJ c.aP=false then Rn.eY c r2 else r2):=by unfold Rn.dX;rw[au (by omega),au (by omega),ay J]
 have G:=ae (λg (h:RN g X p c A n k t m q (r.pc 27) s o)=>oT h hq 1 r.k.word (r.k.word+1) (by decide) K);rw[show(r.pc 27).L=r.L from rfl]at G;obtain⟨x,hx⟩:∃x,x=aG r.L 1:=⟨_,rfl⟩
 rw[<-hx]at G L;by_cases D:x=r.k.word
 .rw[ay D]at G;have pA:(x==r.k.word)=true:=by rw[D];exact beq_self_eq_true _
  rw[pA]at G;have Rw:=ae (λg mx (h:RN g X p c A n k t mx (q+1) ((r.pc 27).store 1 (r.k.word+1)) s o)=>vX g r.k.aJ s.fr.A s.fr.c s.ol.A s.ol.c (r.k.word+1) (by omega) (h.pls l.k.aJ (Int.le_trans M (by decide))));unfold mo at Rw;have Ry:PB (bX c) N (gL r.k.aJ (r.k.word+1)):=rA l.k.aJ _;rw[ay D]at L;obtain⟨a,sF⟩:∃a,a=gL r.k.aJ (r.k.word+1):=⟨_,rfl⟩
  rw[<-sF]at Rw Ry;have W:Rn.dX c t r=if Mo.needs a c.aP=false then Rn.eY c {r.store 1 (r.k.word+1)with k:={r.k with pc:=27,aJ:=a}}else{r.store 1 (r.k.word+1)with k:={r.k with pc:=27,aJ:=a}}:=by rw[L,sF];rfl
  obtain⟨HE,Df⟩:=av W Ry;clear D L W Ry sF;have CD:=ae J;have Am:Hid (N<=100000):=Int.le_trans M (by decide);obtain⟨M9,HH⟩:=av M H;have d:=H.lt;obtain⟨aC,f,-⟩:=ag.aF HH.Y.blk;unfold bI at aC;rw[J]at aC;clear H l hx M J xA K;go_enter func110,ntmps110;go_upto_region 18 with fail
  clear aC f d;have V:RN (w.setCell ⟨p,0,none⟩ (.int .i64 27)) X p c A n k t m q (r.pc 27) s o:=RN.leaf HH.Y s o {HH.Y.tk with} HH.Y.op rfl;obtain⟨R,oU⟩:=av V (((gv.refl w p).set 0 (.int .i64 27)).fr m);clear V;generalize(w.setCell ⟨p,0,none⟩ (.int .i64 27))=w2 at *;obtain⟨aC,f,d⟩:=ag.aF R.Y.blk;unfold bI Rn.pc at aC;dsimp only at aC;go_wp2_with fail;(with_reducible go_fit (G.Y _ R.Y));rintro e w1 ⟨rfl,y,(E:Hid _),Q⟩;have uB:=ae (oU.Y.trans Q);clear Q aC f d HH;obtain⟨aC,f,d⟩:=ag.aF E.Y.blk;unfold bI Rn.store Rn.pc at aC;dsimp only at aC;go_wp2_with fail;(with_reducible go_fit (Rw.Y _ _ E.Y));rintro e Y ⟨v,z,rfl,B,F,C,d1,rfl,fe,gA,o8⟩;unfold mo;obtain⟨Z,xb⟩:=av (E.Y.more o8) (uB.Y.trans (cP.ext o8 p y));have rJ:Hid (oh Y (Im Y X p y) {r.k with pc:=27,aJ:=a} {s with fr:=⟨B,F⟩,ol:=⟨C,d1⟩}):=wU.tk Z.Y.tk fe gA (λb h0 h1=>Im.fresh E.Y h0 h1) _ rfl;clear aC f d fe gA o8;obtain⟨aC,f,d⟩:=ag.aF Z.Y.blk;unfold bI Rn.store Rn.pc at aC;dsimp only at aC;go_upto_region 20 with fail
  clear aC f d;have Hr:RN (((((Y.setCell ⟨p,22,none⟩ (.int .i64 a.own.ix)).setCell ⟨p,23,none⟩ (.int .i64 a.own.tag)).setCell ⟨p,24,none⟩ (.slice B a.free.length F)).setCell ⟨p,25,none⟩ (.slice C a.old.length d1)).setCell ⟨p,26,none⟩ (.int .i64 a.spent)) X p c A n k t y (q+1) {r.store 1 (r.k.word+1)with k:={r.k with pc:=27,aJ:=a}} {s with fr:=⟨B,F⟩,ol:=⟨C,d1⟩} o:=RN.leaf Z.Y {s with fr:=⟨B,F⟩,ol:=⟨C,d1⟩} o {rJ.Y with} Z.Y.op rfl;obtain⟨H5,aq⟩:=av Hr (((((((gv.refl Y p).set 22 (.int .i64 a.own.ix)).set 23 (.int .i64 a.own.tag)).set 24 (.slice B a.free.length F)).set 25 (.slice C a.old.length d1)).set 26 (.int .i64 a.spent)).fr y);clear Hr;generalize(((((Y.setCell ⟨p,22,none⟩ (.int .i64 a.own.ix)).setCell ⟨p,23,none⟩ (.int .i64 a.own.tag)).setCell ⟨p,24,none⟩ (.slice B a.free.length F)).setCell ⟨p,25,none⟩ (.slice C a.old.length d1)).setCell ⟨p,26,none⟩ (.int .i64 a.spent))=w5 at *;obtain⟨oc,ir⟩:=av (xb.Y.trans aq.Y) H5.Y;obtain⟨gq,ij,U,i,d⟩:=H5.Y.cT;have I:=ir.Y.cx;unfold bI Rn.store at I;dsimp only at I;have P:=ae (λg=>rE g a B F C d1 c.aP);unfold mo at P;obtain⟨nd,j⟩:∃nd,nd=Mo.needs a c.aP:=⟨_,rfl⟩
  rw[<-j]at P HE;have HSC:=ae (λg (h:RN g X p c A n k t y (q+1) {r.store 1 (r.k.word+1)with k:={r.k with pc:=27,aJ:=a}} {s with fr:=⟨B,F⟩,ol:=⟨C,d1⟩} o)=>mz h Df.Y Am.Y);clear j;go_wp2_with fail;go_region_held3(RX w5 p y 0 0) (exact gw) (first
   |((with_reducible go_fit (P.Y _));rintro e wN ⟨rfl,u⟩;have O:=RX.below (by assumption) u;(try have S:=U.Y _ _ (by assumption) u);(try have T:=i.Y _ _ (by assumption) u)))
  obtain⟨Ab,Xl⟩:=av S (oc.Y.trans T);clear I d gq ij U i u O S T;obtain⟨aC,f,d⟩:=ag.aF Ab.Y.blk;unfold bI Rn.store at aC;exact Rz
 .rw[au D]at G;have pA:(x==r.k.word)=false:=by rw[dp];exact D
  rw[pA]at G;rw[au D]at L;have W:Rn.dX c t r=if Mo.needs r.k.aJ c.aP=false then Rn.eY c (r.pc 27)else r.pc 27:=by rw[L];rfl
  obtain⟨HE,Df⟩:=av W l.k.aJ;clear D L W;have CD:=ae J;have Am:Hid (N<=100000):=Int.le_trans M (by decide);obtain⟨M9,HH⟩:=av M H;have d:=H.lt;obtain⟨aC,f,-⟩:=ag.aF HH.Y.blk;unfold bI at aC;rw[J]at aC;clear H l hx M J xA K;go_enter func110,ntmps110;go_upto_region 18 with fail
  clear aC f d;have V:RN (w.setCell ⟨p,0,none⟩ (.int .i64 27)) X p c A n k t m q (r.pc 27) s o:=RN.leaf HH.Y s o {HH.Y.tk with} HH.Y.op rfl;obtain⟨R,oU⟩:=av V (((gv.refl w p).set 0 (.int .i64 27)).fr m);clear V;generalize(w.setCell ⟨p,0,none⟩ (.int .i64 27))=w2 at *;obtain⟨aC,f,d⟩:=ag.aF R.Y.blk;unfold bI Rn.pc at aC;dsimp only at aC;go_wp2_with fail;(with_reducible go_fit (G.Y _ R.Y));rintro e w1 ⟨rfl,y,(E:Hid _),Q⟩;have uB:=ae (oU.Y.trans Q);clear Q aC f d HH;obtain⟨aC,f,d⟩:=ag.aF E.Y.blk;unfold bI Rn.pc at aC;dsimp only at aC;go_upto_region 20 with fail
  clear aC f d;have ir:=ae E.Y;obtain⟨gq,ij,U,i,d⟩:=E.Y.cT;have I:=ir.Y.cx;unfold bI Rn.pc at I;dsimp only at I;have P:=ae (λg=>rE g r.k.aJ s.fr.A s.fr.c s.ol.A s.ol.c c.aP);unfold mo at P;obtain⟨nd,j⟩:∃nd,nd=Mo.needs r.k.aJ c.aP:=⟨_,rfl⟩
  rw[<-j]at P HE;have HSC:=ae (λg (h:RN g X p c A n k t y (q+1) (r.pc 27) s o)=>mz h Df.Y Am.Y);clear j;go_wp2_with fail;go_region_held3(RX w1 p y 0 0) (exact gw) (first
   |((with_reducible go_fit (P.Y _));rintro e wN ⟨rfl,u⟩;have O:=RX.below (by assumption) u;(try have S:=U.Y _ _ (by assumption) u);(try have T:=i.Y _ _ (by assumption) u)))
  obtain⟨Ab,Xl⟩:=av S (uB.Y.trans T);clear I d gq ij U i u O S T;obtain⟨aC,f,d⟩:=ag.aF Ab.Y.blk;unfold bI Rn.pc at aC;exact Rz
theorem IP(H:RN w X p c A n k t m q r s o)(R:RB c N r)(hN:N<=90000)(hq:q<=900000)(cB:r.k.pc=27):Calls prog 110 #[.pointer (some ⟨p,0,none⟩)] w (cW X p c A n k t m (q+1) (Rn.dX c t r) w):=by
 have kK:=R.k.i.1;have xA:=R.f.a;unfold nh at xA;have sZ:r.k.i<c.threads:=aa;have ko:=H.cs.th;have hi:0<=r.k.i/\r.k.i<=100000:=⟨kK,aa⟩
 have ha:=(dZ H.cs.ee kK sZ).2.1;have U6:Hid (r.k.seen.length<=1000000):=by unfold Hid;have:=R.k.tM;omega
 have a6:=R.k.tM;obtain⟨HA,lF⟩:=av (λD=>qI D H.cs.ee A k n r.k.i kK aa) (λD (h:RN D X p c A n k t m q r s o)=>di h hq (jZ c r.k.i) ha.1);obtain⟨x,hx⟩:=aw (aG r.L (jZ c r.k.i));have hE:Rn.dX c t r=if r.k.i+1=c.threads then Rn.eY c {r with k:={r.k with seen:=r.k.seen++[x],i:=r.k.i+1,aJ:=pd r.k.aJ (r.k.seen++[x])}}else{r with k:={r.k with seen:=r.k.seen++[x],i:=r.k.i+1}}:=by unfold Rn.dX;rw[au aa,au aa,au aa,ay cB, <-hx]
 rw[<-hx]at lF;obtain⟨iF,HE,HI⟩:=aS (λD=>yU D s.se.A r.k.seen.length s.se.c H.tk.ls (λe=>by have h:=H.tk.se.1;rw[e]at h;rw[h.po];rfl)) hE hi;have Am:Hid (N<=100000):=Int.le_trans hN af;obtain⟨M9,Y,Zi,HH⟩:=bh hN R.k.aJ a6 H;obtain⟨gq,ij,dA,E,B⟩:=H.cT;obtain⟨f,G,-⟩:=ag.aF HH.blk;unfold bI at f;rw[cB]at f;clear H R hE hx ha cB xA kK sZ ko hi hN a6 G;go_enter func110,ntmps110;go_wp2_with fail;have b5:w.drew.cell? ⟨p,21,none⟩=some (.slice s.se.A r.k.seen.length s.se.c):=f 21;clear f;obtain⟨Q,q8,kf,iM⟩:=HH.FH 21 22;unfold bI at Q;refine wp_region_held_drew (S:=(RX w p m 21 22)) (by kernel_rfl) (RX.start HH.blk _ _ _) (λa=>?_);refine aU 0 a ?_;refine aU 1 a ?_;refine aU 2 a ?_;refine aU 3 a ?_;refine aU 4 a ?_;refine aU 7 a ?_;refine aU 8 a ?_;refine aU 9 a ?_;refine aU 10 a ?_;refine aU 11 a ?_;refine aU 12 a ?_;refine aU 13 a ?_;refine aU 14 a ?_;refine aU 15 a ?_;refine aU 16 a ?_;(try simp only[aL]);refine eQ 5 (λK d=>?_);go_simp;refine d.Y _ _ gw (λa=>?_);clear d K;(try simp only[aL]);refine eQ 6 (λK d=>?_);go_simp;((with_reducible go_fit (iF.Y _));rintro e wA ⟨rfl,rfl⟩);go_wp2_with fail;refine d.Y _ _ gw (λa=>?_);clear d K;(try simp only[aL]);refine eQ 17 (λK d=>?_);go_simp;((with_reducible go_fit (HA.Y _));rintro e wB ⟨rfl,eG⟩;have nE:=RX.below aN eG;(try have zK:=dA.Y _ _ aN eG);(try have wG:=E.Y _ _ aN eG));go_wp2_with fail;refine d.Y _ _ gw (λa=>?_);clear d K;(try simp only[aL]);refine eQ 18 (λK d=>?_);go_simp;((with_reducible go_fit (lF.Y _ aN));rintro e wC ⟨rfl,l,Z,fC⟩;have jR:=RX.acc aN HH.Y.blk fC (Z.kept fC rfl);have eJ:=cP.trans aN fC);go_wp2_with fail;refine d.Y _ _ gw (λa=>?_);clear d K;(try simp only[aL]);refine eQ 19 (λK d=>?_);go_simp;refine d.Y _ _ gw (λa=>?_);clear d K;(try simp only[aL]);refine eQ 20 (λK d=>?_);(refine sT rfl _ _ 30 rfl 69 .u64 underlying30 rQ s.se.A r.k.seen.length r.k.seen rfl rfl ?_ ⟨wC,0,none⟩ 1 x rfl ?_ ?_ ?_;(exact Z.tk.se.1.alloc _);(exact bD.one _ .u64 _ _);(exact U6.Y);intro u y I L dJ;have Hw:=RX.below aN dJ);refine d.Y _ _ gw (λa=>?_);clear d K;(try simp only[aL]);refine aU 21 a ?_;refine aU 22 a ?_;refine aU 23 a ?_;(try simp only[aL]);refine eQ 24 (λK d=>?_);go_simp;refine d.Y _ _ gw (λa=>?_);clear d K;(try simp only[aL]);refine wpAnyH_done (by kernel_rfl) ?_ _;obtain⟨iA,oc⟩:=av (Z.more (ah (aj (ai _) _) dJ)) (eJ.trans (cP.ext (ah (aj (ai _) _) dJ) p l));have nQ:∀b,(wC.alloc (.cells #[.int .u64 x] 69)).heap.size<=b->b<I.heap.size->Im I X p l b:=λb h0 h1=>Im.fresh Z (by simp at h0;omega) h1;obtain⟨j,F⟩:=aw (r.k.seen++[x]);have M:r.k.seen.length+1=j.length:=by rw[F];simp
 rw[<-F]at L;rw[M]at L ⊢;have rJ:Hid (oh I (Im I X p l) {r.k with seen:=j} {s with se:=⟨u,y⟩}):={iA.tk with se:=⟨L.pw.2,λad ha _=>by subst ha;exact nQ _ (bk L rfl).1 (bk L rfl).2⟩,ls:=L.cap.2}
 obtain⟨br,fW⟩:=av F M;clear nQ L dJ Hw nE zK wG eG Z fC jR eJ a F M Q q8 kf iM b5 B;have Xu:RN (I.setCell ⟨p,21,none⟩ (.slice u j.length y)) X p c A n k t l (q+1) {r with k:={r.k with seen:=j}} {s with se:=⟨u,y⟩} o:=RN.leaf iA {s with se:=⟨u,y⟩} o rJ iA.op rfl;obtain⟨H7,ZT⟩:=av Xu (((gv.refl I p).set 21 (.slice u j.length y)).fr l);clear Xu;generalize(I.setCell ⟨p,21,none⟩ (.slice u j.length y))=w7 at *;have vE:=ae (oc.trans ZT);have bz:Hid (j.length<=100000):=by unfold Hid;have:=fW.Y;have:=Zi.Y;have:=M9.Y;omega
 clear iA oc ZT rJ;obtain⟨f,G,B⟩:=ag.aF H7.blk;unfold bI at f;dsimp only at f;have kK:=HI.1;have b6:=HI.2;go_upto_region 25 with fail
 clear f G B;have aq:RN (w7.setCell ⟨p,9,none⟩ (.int .i64 (r.k.i+1))) X p c A n k t l (q+1) {r with k:={r.k with seen:=j,i:=r.k.i+1}} {s with se:=⟨u,y⟩} o:=RN.leaf H7 {s with se:=⟨u,y⟩} o {H7.tk with} H7.op rfl;obtain⟨H8,a8⟩:=av aq (((gv.refl w7 p).set 9 (.int .i64 (r.k.i+1))).fr l);clear aq;generalize(w7.setCell ⟨p,9,none⟩ (.int .i64 (r.k.i+1)))=w8 at *;have ZM:=ae (vE.trans a8);obtain⟨f,G,B⟩:=ag.aF H8.blk;unfold bI at f;dsimp only at f;by_cases T:r.k.i+1=c.threads
 .have ZR:(r.k.i+1==c.threads)=true:=by rw[T];exact beq_self_eq_true _
  have C:=HE.Y;rw[ay T, <-br.Y]at C;clear T;go_wp2_with fail;go_quiet(fail);go_wp2_with fail;obtain⟨W,ZJ⟩:=av (λnq=>H8.more (bZ (ai w8) nq)) (λnq=>ZM.trans (cP.ext (bZ (ai w8) nq) p l));clear f G B;generalize Z4:World.drewN w8 _=J;have H9:Hid (RN J X p c A n k t l (q+1) {r with k:={r.k with seen:=j,i:=r.k.i+1}} {s with se:=⟨u,y⟩} o):=by rw[<-Z4];exact W.Y _
  have UD:Hid (cP w J p m l):=by rw[<-Z4];exact ZJ.Y _
  clear Z4 W ZJ;have J6:=ae (λD (h:RN D X p c A n k t l (q+1) {r with k:={r.k with seen:=j,i:=r.k.i+1}} {s with se:=⟨u,y⟩} o)=>DZ D r.k.aJ s.fr.A s.fr.c s.ol.A s.ol.c u j.length y j rfl bz h.tk.se.1 (h.pls Y Am));unfold mo at J6;have Ry:PB (bX c) N (pd r.k.aJ j):=rA Y _;obtain⟨g,sF⟩:=aw (pd r.k.aJ j);rw[<-sF]at J6 Ry C;obtain⟨C,bE⟩:=av C (λD sx (h:RN D X p c A n k t l (q+1) {r with k:={r.k with seen:=j,i:=r.k.i+1,aJ:=g}} sx o)=>mz h Ry Am);clear sF Ry;have V:=ae H9;obtain⟨gq,ij,dA,E,B⟩:=H9.cT;obtain⟨Q,q8,kf,iM⟩:=V.FH 22 27;unfold bI at Q;dsimp only at Q;have f:=λi=>ag.cell H9.blk i;unfold bI at f;dsimp only at f;have Xo:J.drew.cell? ⟨p,22,none⟩=some (.int .i64 r.k.aJ.own.ix):=f 22;have Xq:J.drew.cell? ⟨p,23,none⟩=some (.int .i64 r.k.aJ.own.tag):=f 23;have Xr:J.drew.cell? ⟨p,24,none⟩=some (.slice s.fr.A r.k.aJ.free.length s.fr.c):=f 24;have Xs:J.drew.cell? ⟨p,25,none⟩=some (.slice s.ol.A r.k.aJ.old.length s.ol.c):=f 25;have Xt:J.drew.cell? ⟨p,26,none⟩=some (.int .i64 r.k.aJ.spent):=f 26;clear f;refine wp_region_held_drew (S:=(RX J p l 22 27)) (by kernel_rfl) (RX.start V.blk _ _ _) (λa=>?_);refine aU 0 a ?_;refine aU 1 a ?_;refine aU 2 a ?_;refine aU 3 a ?_;refine aU 4 a ?_;refine aU 6 a ?_;refine aU 7 a ?_;refine aU 8 a ?_;refine aU 9 a ?_;refine aU 10 a ?_;(try simp only[aL]);refine eQ 5 (λK d=>?_);go_simp;refine d.Y _ _ gw (λa=>?_);clear d K;(try simp only[aL]);refine eQ 11 (λK d=>?_);go_simp;((rw[gp Xo,gp Xq,gp Xr,gp Xs,gp Xt]);(with_reducible go_fit (J6.Y _ aN));rintro e wD ⟨v,z,rfl,O,U,P,d1,rfl,fe,gA,o8⟩;unfold mo;have J4:=RX.below aN o8;have hD:=dA.Y _ _ aN o8;have zb:=E.Y _ _ aN o8);go_wp2_with fail;refine d.Y _ _ gw (λa=>?_);clear d K;(try simp only[aL]);refine aU 12 a ?_;refine aU 13 a ?_;refine aU 14 a ?_;refine aU 15 a ?_;refine aU 16 a ?_;refine aU 17 a ?_;(try simp only[aL]);refine eQ 18 (λK d=>?_);go_simp;refine d.Y _ _ gw (λa=>?_);clear d K;(try simp only[aL]);refine wpAnyH_done (by kernel_rfl) ?_ _;obtain⟨kG,xb⟩:=av hD (UD.trans zb);have rJ:Hid (oh wD (Im wD X p l) {r.k with seen:=j,i:=r.k.i+1,aJ:=g} {s with se:=⟨u,y⟩,fr:=⟨O,U⟩,ol:=⟨P,d1⟩}):=wU.tk hD.tk fe gA (λb h0 h1=>Im.fresh H9 h0 h1) _ rfl;clear Q q8 kf iM B Xo Xq Xr Xs Xt a gq ij dA E o8 J4 hD zb fe gA;obtain⟨f,G,B⟩:=ag.aF kG.blk;unfold bI at f;dsimp only at f;go_upto_region 27 with fail
  clear f G B;have Hr:RN (((((wD.setCell ⟨p,22,none⟩ (.int .i64 g.own.ix)).setCell ⟨p,23,none⟩ (.int .i64 g.own.tag)).setCell ⟨p,24,none⟩ (.slice O g.free.length U)).setCell ⟨p,25,none⟩ (.slice P g.old.length d1)).setCell ⟨p,26,none⟩ (.int .i64 g.spent)) X p c A n k t l (q+1) {r with k:={r.k with seen:=j,i:=r.k.i+1,aJ:=g}} {s with se:=⟨u,y⟩,fr:=⟨O,U⟩,ol:=⟨P,d1⟩} o:=RN.leaf kG {s with se:=⟨u,y⟩,fr:=⟨O,U⟩,ol:=⟨P,d1⟩} o {rJ with} kG.op rfl;obtain⟨H5,a7⟩:=av Hr (((((((gv.refl wD p).set 22 (.int .i64 g.own.ix)).set 23 (.int .i64 g.own.tag)).set 24 (.slice O g.free.length U)).set 25 (.slice P g.old.length d1)).set 26 (.int .i64 g.spent)).fr l);clear Hr;generalize(((((wD.setCell ⟨p,22,none⟩ (.int .i64 g.own.ix)).setCell ⟨p,23,none⟩ (.int .i64 g.own.tag)).setCell ⟨p,24,none⟩ (.slice O g.free.length U)).setCell ⟨p,25,none⟩ (.slice P g.old.length d1)).setCell ⟨p,26,none⟩ (.int .i64 g.spent))=I at *;obtain⟨f,G,B⟩:=ag.aF H5.blk;unfold bI at f;dsimp only at f;go_wp2_with fail;go_fit (bE _ _ H5);rintro e w3 ⟨rfl,(HX:Hid _)⟩;go_wp2_with fail;refine bodyPost_ret (v:=.tuple #[]) (by simp[results,results110,go_sem]) rfl ?_;rw[C.Y];exact cW.then (xb.trans a7) ⟨rfl,HX⟩
 .have ZR:(r.k.i+1==c.threads)=false:=by rw[dp];exact T
  have C:=HE.Y;rw[au T, <-br.Y]at C;have C:=ae C;clear T;go_wp2_with fail;go_quiet(fail);go_wp2_with fail;refine bodyPost_ret (v:=.tuple #[]) (by simp[results,results110,go_sem]) rfl ?_;rw[C.Y];exact⟨rfl,_,_,_,H8.more (bZ (ai _) _),ZM.trans (cP.ext (bZ (ai _) _) p l)⟩
theorem IQ(H:RN w X p c A n k t m q r s o)(B:RB c N r)(hN:N<=90000)(hq:q<=900000)(I:r.k.pc=25):Calls prog 110 #[.pointer (some ⟨p,0,none⟩)] w (cW X p c A n k t m (q+1) (Rn.dX c t r) w):=by
 have kK:=B.k.i.1;have xA:=B.f.a;unfold nh at xA;have sZ:r.k.i<c.threads:=aa;have ko:=H.cs.th;have Ny:IntKind.i64.wrap r.k.word=r.k.word:=kD B.k.word.1 aa;have Z:0<=r.k.i/\r.k.i<=100000:=⟨kK,aa⟩
 have Y:=(dZ H.cs.ee kK sZ).2.2.1;obtain⟨HA,lF⟩:=av (λF=>tV F H.cs.ee A k n r.k.i kK aa) (λF (h:RN F X p c A n k t m q r s o)=>di h hq (qp c r.k.i) Y.1);obtain⟨x,P⟩:=aw (aG r.L (qp c r.k.i));obtain⟨a,SH⟩:=aw (r.k.all && (decide (r.k.i=t) || lets x r.k.word));have W:Rn.dX c t r=if r.k.i+1<c.threads then{r with k:={r.k with all:=a,i:=r.k.i+1}}else{r with k:={r.k with all:=a,i:=0,seen:=[],pc:=if a=true then 26 else 27}}:=by unfold Rn.dX;rw[au aa,ay I,SH, <-P]
 rw[<-P]at lF;have qa:=ae (λF=>N7 x r.k.word F);have D:Dq x r.k.word=lets x r.k.word:=by have h0:=B.k.word.1;have h1:r.k.word<=N:=aa;unfold Dq lets;rw[show VG r.k.word=jt r.k.word by unfold VG jt;omega]
 rw[D]at qa;obtain⟨HE,HI,v,HH⟩:=bh W Z SH H;obtain⟨C,E,z,f,bb⟩:=H.cT;have l:=HH.cx;unfold bI at l;obtain⟨aC,bC,-⟩:=ag.aF HH.blk;unfold bI at aC;rw[I]at aC;have U:=ae I;clear H B W P Y I xA kK sZ ko Z hN SH D;go_enter func110,ntmps110;go_wp2_with fail;clear aC bC;go_region_held3(RX w p m 0 0) (exact gw) (first
  |((with_reducible go_fit (HA.Y _));rintro e wA ⟨rfl,J⟩;have mg:=RX.below aN J;(try have nG:=z.Y _ _ aN J);(try have nR:=f.Y _ _ aN J))
  |((with_reducible go_fit (lF.Y _ aN));rintro e wC ⟨rfl,mC,O,L⟩;have jR:=RX.acc aN HH.Y.blk L (O.kept L rfl);have V:=cP.trans aN L))
 obtain⟨HR,M⟩:=av O V;clear O L V l bb jR mg nG nR J C E z f;generalize wC=g at *;rcases G:r.k.all with _|_
 rotate_left;rcases y:(r.k.i==t)with _|_
 rotate_right;all_goals
  have j:=ae HR;obtain⟨C,E,z,f,bb⟩:=HR.cT;obtain⟨l,T,R,Q⟩:=j.FH 13 14;unfold bI at l;dsimp only at l;rw[U.Y]at l;have aC:=λi=>ag.cell HR.blk i;unfold bI at aC;rw[U.Y]at aC;go_wp2_with fail;have d:g.drew.cell? ⟨p,13,none⟩=some (.bool r.k.all):=aC 13;rw[G]at d;clear aC
 .have SH:a=false:=by rw[v.Y];rw[G];rfl
  refine wp_region_held_drew (S:=(RX g p mC 13 14)) (by kernel_rfl) (RX.start j.blk _ _ _) (λhHeld=>?_);refine aU 0 hHeld ?_;refine aU 1 hHeld ?_;refine aU 2 hHeld ?_;refine aU 3 hHeld ?_;refine aU 4 hHeld ?_;(try simp only[aL]);refine eQ 5 (λK b=>?_);go_simp;refine b.Y _ _ (by first|(with_reducible exact hHeld)|exact RX.below (RX.set (i:=13) (RX.same j.Y.blk _ _ _) af _) (ai _).drew) (λhHeld=>?_);clear b K;rw[gp d];(try simp only[aL]);refine aU 6 hHeld ?_;refine Cy 7 hHeld ?_;(try simp only[aL]);refine Cy 8 hHeld ?_;(try simp only[aL]);refine Cy 9 hHeld ?_;(try simp only[aL]);refine Cy 10 hHeld ?_;(try simp only[aL]);refine Cy 11 hHeld ?_;(try simp only[aL]);refine Cy 12 hHeld ?_;(try simp only[aL]);refine Cy 13 hHeld ?_;(try simp only[aL]);refine Cy 14 hHeld ?_;(try simp only[aL]);refine Cy 15 hHeld ?_;(try simp only[aL]);refine Cy 16 hHeld ?_;(try simp only[aL]);refine Cy 17 hHeld ?_;(try simp only[aL]);refine Cy 18 hHeld ?_;(try simp only[aL]);refine Cy 19 hHeld ?_;(try simp only[aL]);refine Cy 20 hHeld ?_;(try simp only[aL]);refine Cy 21 hHeld ?_;(try simp only[aL]);refine aU 22 hHeld ?_;refine aU 23 hHeld ?_;refine aU 24 hHeld ?_;refine aU 25 hHeld ?_;(try simp only[aL]);refine eQ 26 (λK b=>?_);go_simp;refine b.Y _ _ (by first|(with_reducible exact hHeld)|exact RX.below (RX.set (i:=13) (RX.same j.Y.blk _ _ _) af _) (ai _).drew) (λhHeld=>?_);clear b K;(try simp only[aL]);refine wpAnyH_done (by kernel_rfl) ?_ _;clear hHeld l T R Q bb d C E z f;have u:RN (g.setCell ⟨p,13,none⟩ (.bool false)).drew X p c A n k t mC (q+1) {r with k:={r.k with all:=a}} s o:=by exact RA
  obtain⟨gN,rW⟩:=av u (M.trans ((((gv.refl g p).set 13 (.bool false)).drew).fr mC));clear u SH;generalize(g.setCell ⟨p,13,none⟩ (.bool false)).drew=w3 at *;exact RD
 .have SH:a=(lets x r.k.word):=by rw[v.Y];rw[G,bF (λh=>by rw[h,beq_self_eq_true]at y;cases y)];rfl
  refine wp_region_held_drew (S:=(RX g p mC 13 14)) (by kernel_rfl) (RX.start j.blk _ _ _) (λhHeld=>?_);refine aU 0 hHeld ?_;refine aU 1 hHeld ?_;refine aU 2 hHeld ?_;refine aU 3 hHeld ?_;refine aU 4 hHeld ?_;(try simp only[aL]);refine eQ 5 (λK b=>?_);go_simp;refine b.Y _ _ (by first|(with_reducible exact hHeld)|exact RX.below (RX.set (i:=13) (RX.same j.Y.blk _ _ _) af _) (ai _).drew) (λhHeld=>?_);clear b K;rw[gp d];(try simp only[aL]);refine aU 6 hHeld ?_;refine aU 7 hHeld ?_;(try simp only[aL]);refine aU 8 hHeld ?_;(try simp only[aL]);refine aU 9 hHeld ?_;(try simp only[aL]);refine aU 10 hHeld ?_;(try simp only[aL]);refine aU 11 hHeld ?_;(try simp only[aL]);refine aU 12 hHeld ?_;(try simp only[aL]);refine aU 13 hHeld ?_;(try simp only[aL]);refine aU 14 hHeld ?_;(try simp only[aL]);refine aU 15 hHeld ?_;(try simp only[aL]);refine aU 16 hHeld ?_;(try simp only[aL]);refine aU 17 hHeld ?_;(try simp only[aL]);refine aU 18 hHeld ?_;(try simp only[aL]);refine aU 19 hHeld ?_;(try simp only[aL]);refine eQ 20 (λK b=>?_);go_simp;((with_reducible go_fit (qa.Y _));rintro e wB ⟨rfl,rfl⟩);go_wp2_with fail;refine b.Y _ _ (by first|(with_reducible exact hHeld)|exact RX.below (RX.set (i:=13) (RX.same j.Y.blk _ _ _) af _) (ai _).drew) (λhHeld=>?_);clear b K;(try simp only[aL]);refine aU 21 hHeld ?_;(try simp only[aL]);refine aU 22 hHeld ?_;refine aU 23 hHeld ?_;refine aU 24 hHeld ?_;refine aU 25 hHeld ?_;(try simp only[aL]);refine eQ 26 (λK b=>?_);go_simp;refine b.Y _ _ (by first|(with_reducible exact hHeld)|exact RX.below (RX.set (i:=13) (RX.same j.Y.blk _ _ _) af _) (ai _).drew) (λhHeld=>?_);clear b K;(try simp only[aL]);refine wpAnyH_done (by kernel_rfl) ?_ _;clear hHeld l T R Q bb d C E z f;have u:RN (g.setCell ⟨p,13,none⟩ (.bool (lets x r.k.word))).drew X p c A n k t mC (q+1) {r with k:={r.k with all:=a}} s o:=by exact RA
  obtain⟨gN,rW⟩:=av u (M.trans ((((gv.refl g p).set 13 (.bool (lets x r.k.word))).drew).fr mC));clear u SH;generalize(g.setCell ⟨p,13,none⟩ (.bool (lets x r.k.word))).drew=w3 at *;exact RD
 .have SH:a=true:=by rw[v.Y];rw[G,eq_of_beq y,cg rfl];rfl
  refine wp_region_held_drew (S:=(RX g p mC 13 14)) (by kernel_rfl) (RX.start j.blk _ _ _) (λhHeld=>?_);refine aU 0 hHeld ?_;refine aU 1 hHeld ?_;refine aU 2 hHeld ?_;refine aU 3 hHeld ?_;refine aU 4 hHeld ?_;(try simp only[aL]);refine eQ 5 (λK b=>?_);go_simp;refine b.Y _ _ (by first|(with_reducible exact hHeld)|exact RX.below (RX.set (i:=13) (RX.same j.Y.blk _ _ _) af _) (ai _).drew) (λhHeld=>?_);clear b K;rw[gp d];(try simp only[aL]);refine aU 6 hHeld ?_;refine aU 7 hHeld ?_;(try simp only[aL]);refine aU 8 hHeld ?_;(try simp only[aL]);refine aU 9 hHeld ?_;(try simp only[aL]);refine aU 10 hHeld ?_;(try simp only[aL]);refine aU 11 hHeld ?_;(try simp only[aL]);refine aU 12 hHeld ?_;(try simp only[aL]);refine aU 13 hHeld ?_;(try simp only[aL]);refine aU 14 hHeld ?_;(try simp only[aL]);refine aU 15 hHeld ?_;(try simp only[aL]);refine aU 16 hHeld ?_;(try simp only[aL]);refine aU 17 hHeld ?_;(try simp only[aL]);refine Cy 18 hHeld ?_;(try simp only[aL]);refine Cy 19 hHeld ?_;(try simp only[aL]);refine Cy 20 hHeld ?_;(try simp only[aL]);refine aU 21 hHeld ?_;(try simp only[aL]);refine aU 22 hHeld ?_;refine aU 23 hHeld ?_;refine aU 24 hHeld ?_;refine aU 25 hHeld ?_;(try simp only[aL]);refine eQ 26 (λK b=>?_);go_simp;refine b.Y _ _ (by first|(with_reducible exact hHeld)|exact RX.below (RX.set (i:=13) (RX.same j.Y.blk _ _ _) af _) (ai _).drew) (λhHeld=>?_);clear b K;(try simp only[aL]);refine wpAnyH_done (by kernel_rfl) ?_ _;clear hHeld l T R Q bb d C E z f;have u:RN (g.setCell ⟨p,13,none⟩ (.bool true)).drew X p c A n k t mC (q+1) {r with k:={r.k with all:=a}} s o:=by exact RA
  obtain⟨gN,rW⟩:=av u (M.trans ((((gv.refl g p).set 13 (.bool true)).drew).fr mC));clear u SH;generalize(g.setCell ⟨p,13,none⟩ (.bool true)).drew=w3 at *;exact RD
theorem CL(H:RN w X p c A n k t m q r s o)(d:RB c N r)(f:N<=90000)(g:q<=900000)(l:24<=r.k.pc)(u:r.k.pc<=27):Calls prog 110 #[.pointer (some ⟨p,0,none⟩)] w (cW X p c A n k t m (q+1) (Rn.dX c t r) w):=by
 rcases(by omega:r.k.pc=24\/r.k.pc=25\/r.k.pc=26\/r.k.pc=27)with h|h|h|h
 .exact IL H d f g h
 .exact IQ H d f g h
 .exact IM H d f g h
 .exact IP H d f g h
end
theorem Na(w:World)(g:Nat)(a:Addr)(n c:Nat)(d:w.cell? ⟨g,0,none⟩=some (.slice (some a) n c)):Calls prog 102 #[.pointer g] w λe w'=>e=.returned n/\w=w':=by have b:=ae (qB w g a n c d);go_enter func102,ntmps102;go_wp2_with fail;refine b.mono ?_;exact S4
structure StP (w:World) (X:Nat->Prop) (c:Mo.dG) (A:Option Addr) (n:Nat) (t:Int) (m:Mm) (q:Nat) (L:List Int) (x:Mo.Tk) (s:Sh):Prop where
 mem:xz w m L q
 ln:(L.length:Int)=Mo.bG c
 cs:CfS c n t
 mx:∀b,m.own b->¬X b
 xl:∀b,X b->b<w.heap.size
 cf:dL w (Iz w X m) .i64 A c.start
 tk:oh w (Iz w X m) x s
def XI(X:Nat->Prop)(c:dG)(m:Mm)(q:Nat)(r:Rn)(w:World)(e:Ending)(d:World):Prop :=∃p m' a o',w.heap.size<=p/\e=.returned (.tuple #[.agg (jA r.k a).toArray,.agg #[r.note,r.pj,.slice (Sl.A o') r.ops.length (Sl.c o')]])/\xz d m' r.L q/\(r.L.length:Int)=bG c/\oh d (Im d X p m') r.k a/\rN d (Im d X p m') o'.A r.ops/\cP w d p m m'
namespace Mo
section
variable(c:dG)(t:Int)(r:Rn)
theorem Ff(d:0<r.k.pc)(h:r.k.pc<=5):fJ c t r=Rn.enter c t r:=by exact SI
theorem CM(d:0<r.k.pc)(h:5<r.k.pc/\r.k.pc<=7):fJ c t r=Rn.fY c t r:=by exact SI
theorem CN(d:0<r.k.pc)(h:7<r.k.pc/\r.k.pc<=10):fJ c t r=Rn.fZ c r:=by exact SI
theorem Ar(d:0<r.k.pc)(h:10<r.k.pc/\r.k.pc<=12):fJ c t r=Rn.gi c t r:=by exact SI
theorem CO(d:0<r.k.pc)(h:12<r.k.pc/\r.k.pc<=15):fJ c t r=Rn.writes c t r:=by exact SI
theorem zi(d:0<r.k.pc)(h:15<r.k.pc/\r.k.pc<=19):fJ c t r=Rn.cZ c t r:=by exact SI
theorem IV(d:0<r.k.pc)(h:19<r.k.pc/\r.k.pc<=23):fJ c t r=Rn.ends c t r:=by exact SI
theorem At(d:0<r.k.pc)(h:23<r.k.pc/\r.k.pc<=27):fJ c t r=Rn.dX c t r:=by exact SI
theorem Fg(d:0<r.k.pc)(h:r.k.pc=28):fJ c t r=Rn.leave c t r:=by exact SI
theorem Fh(d:0<r.k.pc)(h:28<r.k.pc):fJ c t r=Rn.waits c t r:=by exact SI
end
end Mo
section
variable{q:Nat}{L:List Int}{x:Mo.Tk}{s:Sh}{N:Int}
theorem StP.rn(h:StP w X c A n t m q L x s)(d:Below w w w')(l:w.heap.size<=p)(f:ag w' p 179 (bI c A n k m.g t ⟨x,L,0,false,[]⟩ s eE)):RN w' (XB X w p) p c A n k t m q ⟨x,L,0,false,[]⟩ s eE :=
 have i:Sm (Iz w X m) w w':=λb a=>d.block b a.1
 have g:∀b,Iz w X m b->Im w' (XB X w p) p m b:=λb a=>⟨bW a.1 d.size,λe=>by have:=a.1;omega,a.2.1,λe=>e.elim a.2.2 λe=>by have:=a.1;omega⟩
 ⟨f,h.mem.more d,h.ln,h.cs,λa=>by have:=h.mem.lt a;omega,λb a e=>e.elim (h.mx b a) λe=>by have:=h.mem.lt a;omega,λb a=>a.elim (λa=>bW (h.xl b a) d.size) λa=>Nat.lt_trans a.2 f.lt,(h.cf.same i).mono g,h.tk.move i g,rN.nil _ _ _⟩
theorem XI.fin{d r:World}{f:Mm}{l:Rn}{B:Sh}{u:Sl}{e:Ending}(H:RN d (XB X w p) p c A n k t f q l B u)(F:cP w d p m f)(G:w.heap.size<=p)(z:∀b,¬(w.heap.size<=b/\b<p)->r.heap[b]?=d.heap[b]?)(C:Below 0 d r)(D:e=.returned (.tuple #[.agg (jA l.k B).toArray,.agg #[l.note,l.pj,.slice u.A l.ops.length u.c]])):XI X c m q l w e r :=
 have g:Sm (Im d (XB X w p) p f) d r:=λb h=>z b λe=>h.2.2.2 (.inr e)
 have a:∀b,Im d (XB X w p) p f b->Im r X p f b:=λb h=>⟨bW h.1 C.size,h.2.1,h.2.2.1,λe=>h.2.2.2 (.inl e)⟩
 ⟨p,f,B,u,G,D,H.mem.same λb h=>z b λe=>H.mx b h (.inr e),H.ln,H.tk.move g a,H.op.move g a,F.lS.trans C,λb i j o=>(z b aa).trans (F.same b i j o),F.own,F.g⟩
def SJ(a:Nat)(X:Nat->Prop)(c:dG)(A:Option Addr)(n k:Nat)(t:Int)(m:Mm)(q:Nat)(x:Tk)(L:List Int)(s:Sh)(f:FuncId):Prop :=∀wx p,RN wx (XB X a p) p c A n k t m q ⟨x,L,0,false,[]⟩ s eE->Calls prog f #[.pointer p] wx (cW (XB X a p) p c A n k t m (q+1) (fJ c t ⟨x,L,0,false,[]⟩) wx)
theorem Nb(H:StP w X c A n t m q L x s)(z:RB c N ⟨x,L,0,false,[]⟩)(hF:FB c x)(hown:12<x.pc->x.pc<=15->0<=x.aJ.own.ix/\x.aJ.own.ix<bX c)(hN:N<=90000)(F:q<=900000)(C:0<x.pc):Calls prog 69 #[j8 c A n k,.pointer (some ⟨m.g,0,none⟩),t,.agg (jA x s).toArray] w (XI X c m (q+1) (fJ c t ⟨x,L,0,false,[]⟩) w):=by
 have uy:=H.cs.t0;have vN:=H.cs.t1;have Jo:c.bw<=1048575:=(Mo.aO H.cs.ee).2.2.2.2.2.1.2;have J:N<=100000:=aa;have ct:L≠[]:=λe=>by have h:=H.ln;have h2:=(dZ H.cs.ee uy vN).1;rw[e]at h;simp at h;omega
 have HI:7<x.pc/\x.pc<=12->x.i<c.threads/\(x.buf.length:Int)=bA c:=by intro h;have h2:=z.f.a;unfold nh at h2;dsimp only at h2;omega
 obtain⟨gl,cl,cy,cz,cD⟩:=H.mem.mv.form ct;have a7:∀a,Below w w a->a.cell? ⟨m.g,0,none⟩=some (.slice gl L.length cl):=λa B=>by rw[(H.mem.more B).mv.blk.cell 0,cy];rfl
 obtain⟨DC,CW⟩:=av (λa B=>Na a m.g ⟨gl,0,none⟩ L.length cl (a7 a B)) (λa (B:Below w w a)=>uX a H.cs.ee H.cs.n (H.cf.1.below B) (k:=k));rw[<-H.ln]at CW;obtain⟨ln,Gl⟩:=aw L.length;rw[<-Gl]at DC CW;obtain⟨Ab,qa⟩:=av (λa (p:Nat) (B:Below w w a) (hp:w.heap.size<=p)=>H.rn (k:=k) B hp) (λb=>H.mem.lt (b:=b));obtain⟨G,f⟩:=aw ((((w.alloc (dB c A n k)).alloc (.cells (jA x s).toArray 75)).alloc (.cells zT.toArray 75)).alloc (.cells #[oZ,false,oN] 138));have fh:Hid (Below w w G):=by rw[f];exact aj (aj (aj (aj (ai w) _) _) _) _
 have eW:Hid (ag G w 24 #[c.kind,c.threads,c.chans,c.cap,c.nodes,c.aP,c.aB,c.tags,c.bw,c.bn,.slice A n k]):=by rw[f];exact(((ag.new _ _ _).alloc _).alloc _).alloc _
 have eZ:Hid (ag G (w.heap.size+1) 75 (jA x s).toArray):=by rw[f];exact((ag.newAt _ _ _ aA).alloc _).alloc _
 have iH:Hid (ag G (w.heap.size+1+1) 75 zT.toArray):=by rw[f];exact(ag.newAt _ _ _ aA).alloc _
 have mq:Hid (ag G (w.heap.size+1+1+1) 138 #[oZ,false,oN]):=by rw[f];exact ag.newAt _ _ _ aA
 have ZG:Hid (G.heap.size=w.heap.size+1+1+1+1):=by unfold Hid;rw[f];simp
 unfold zT at f;obtain⟨T,hT⟩:=aw ((jA x s).toArray);rw[<-hT]at f eZ;rw[<-hT];have Z:=ae hT;clear hT;unfold j8;have Ci:=ae f;clear f H;go_enter func69,ntmps69;go_wp2_with fail;rw[<-Ci.Y];clear Ci;obtain⟨Er,aq⟩:=av (λa (l:Ext G a)=>DC a (ah fh l.Y)) (λa (l:Ext G a)=>CW a (ah fh l.Y));have V:=λa (l:Ext G a) i=>ag.cell (eW.ah l.Y) i;have Wr:∀a,Ext G a->a.cell? ⟨w.heap.size+1,0,none⟩=some (.int .i64 x.pc):=λa l=>by rw[ag.cell (eZ.Y.ah l.Y) 0,Z.Y];rfl
 have b5:(x.pc==0)=false:=by rw[dp];omega
 have b6:decide (t<0)=false:=bF aa;have b7:decide (c.threads<=t)=false:=bF aa;clear a7 DC CW;go_region_held3(Ext G) (with_reducible(repeat(first|assumption|exact Ext.start _|refine Ext.alloc ?_ _))) (first
  |((with_reducible go_fit (Er.Y _ aN));rintro e wA ⟨rfl,rfl⟩)
  |((with_reducible go_fit (aq.Y _ aN));rintro e wB ⟨rfl,eG⟩;have W:=Ext.to aN eG))
 obtain⟨iq,Ij,E,O,pR⟩:=bQ (ah fh W.Y) (eW.ah W.Y) (eZ.ah W.Y) (iH.ah W.Y) (mq.ah W.Y);clear V Wr b5 b6 b7 W eG Er aq eW eZ iH mq fh;have V:=λi=>ag.cell Ij i;have Wr:wB.cell? ⟨w.heap.size+1,0,none⟩=some (.int .i64 x.pc):=by rw[ag.cell E.Y 0,Z.Y];rfl
 have fE:=Ij.lt;have wY:=E.lt;have EP:=O.lt;have cR:=pR.lt;go_upto_region 3 with fail
 refine wp_region_lit ?_;refine wpList_load_mid rfl 75 _ rfl (w.heap.size+1) 0 rfl T.toList _ (λj v I=>by rw[Nat.zero_add,ag.cell E.Y j];simpa using I) underlying75 rfl (by rw[Z.Y];rfl) ?_;rw[Array.toArray_toList];refine wpList_load_mid rfl 24 _ rfl w 0 rfl [c.kind,c.threads,c.chans,c.cap,c.nodes,c.aP,c.aB,c.tags,c.bw,c.bn,.slice A n k] _ (λj v I=>by rw[Nat.zero_add,ag.cell Ij.Y j];simpa using I) underlying24 rfl (by kernel_rfl) ?_;refine fA rfl (.pointer (some ⟨m.g,0,none⟩)) rfl ?_;refine fA rfl t rfl ?_;obtain⟨R,hR⟩:=aw (bI c A n k m.g t ⟨x,L,0,false,[]⟩ s eE);refine fA rfl (.agg R) (by rw[hR,Z.Y];kernel_rfl) ?_;have rB:=ae hR;clear hR;go_upto_region 5 with fail
 obtain⟨iA,PN,a6,Ec,nJ,HP⟩:=cS (Ab _ wB (aj iq (.cells R 179)) iq.size (by rw[<-rB.Y];exact ag.new _ _ _)) (E.alloc (.cells R 179)) (O.alloc (.cells R 179)) (pR.alloc (.cells R 179)) (aj iq (.cells R 179)) iq.size;clear V fE Ab rB iq E Ij O pR;generalize wB.alloc (.cells R 179)=w5 at *;generalize wB.heap.size=p at *;have Wr:w5.cell? ⟨w.heap.size+1,0,none⟩=some (.int .i64 x.pc):=by rw[ag.cell PN.Y 0,Z.Y];rfl
 have b8:x.pc<=5\/(5<x.pc/\x.pc<=7)\/(7<x.pc/\x.pc<=10)\/(10<x.pc/\x.pc<=12)\/(12<x.pc/\x.pc<=15)\/(15<x.pc/\x.pc<=19)\/(19<x.pc/\x.pc<=23)\/(23<x.pc/\x.pc<=27)\/x.pc=28\/28<x.pc:=aa;rcases b8 with h|h|h|h|h|h|h|h|h|h
 case' inl =>
  have D:Hid (SJ w X c A n k t m q x L s 103):=λa p g=>by
   rw[Ff c t _ C h]
   exact Ic g z J F C h
 case' inr.inl =>
  have D:Hid (SJ w X c A n k t m q x L s 104):=λa p g=>by
   rw[CM c t _ C h]
   exact EV g z J F h.1 h.2
 case' inr.inr.inl =>
  have D:Hid (SJ w X c A n k t m q x L s 105):=λa p g=>by
   rw[CN c t _ C h]
   exact E5 g z hF J F h.1 h.2
 case' inr.inr.inr.inl =>
  have D:Hid (SJ w X c A n k t m q x L s 106):=λa p g=>by
   rw[Ar c t _ C h]
   exact CK g z (λwy my qy sy r' hR e1 e2 e3 e4 _=>Aq hR (by rw[e4];exact z.k.i.1) (by rw[e4];exact(HI ⟨aa,h.2⟩).1) (by rw[e1];exact hF.b (by show x.pc=11\/x.pc=12;omega)) (by rw[e1];exact(λo ho=>iC (hF.cs o ho).1)) (by rw[e2];exact(HI ⟨aa,h.2⟩).2) (by rw[e2];exact z.k.buf) (by rw[e3];exact iC (z.f.aQ (by show x.pc≠0;omega)))) J F h.1 h.2
 case' inr.inr.inr.inr.inl =>
  have D:Hid (SJ w X c A n k t m q x L s 107):=λa p g=>by
   rw[CO c t _ C h]
   exact E4 g z (hown h.1 h.2) J F h.1 h.2
 case' inr.inr.inr.inr.inr.inl =>
  have D:Hid (SJ w X c A n k t m q x L s 108):=λa p g=>by
   rw[zi c t _ C h]
   exact Ap g z Jo F h.1 h.2
 case' inr.inr.inr.inr.inr.inr.inl =>
  have D:Hid (SJ w X c A n k t m q x L s 109):=λa p g=>by
   rw[IV c t _ C h]
   exact MT g z J F h.1 h.2
 case' inr.inr.inr.inr.inr.inr.inr.inl =>
  have D:Hid (SJ w X c A n k t m q x L s 110):=λa p g=>by
   rw[At c t _ C h]
   exact CL g z hN F h.1 h.2
 case' inr.inr.inr.inr.inr.inr.inr.inr.inl =>
  have D:Hid (SJ w X c A n k t m q x L s 111):=λa p g=>by
   rw[Fg c t _ C h]
   exact Ix g F
 case' inr.inr.inr.inr.inr.inr.inr.inr.inr =>
  have D:Hid (SJ w X c A n k t m q x L s 112):=λa p g=>by
   rw[Fh c t _ C h]
   exact IA g z J F h
 all_goals
  clear hF hown hN F HI J Jo z C;go_wp2_with fail;go_fit (D _ _ iA);rintro e u ⟨rfl,m6,s6,r,H6,F6⟩;clear D;generalize fJ c t ⟨x,L,0,false,[]⟩=d at *;have Q:Hid (ag u (w.heap.size+1+1) 75 zT.toArray):=(F6.same _ a6.lt aa (λB=>by have:=qa.Y _ B;omega)).trans a6;have PK:Hid (ag u (w.heap.size+1+1+1) 138 #[oZ,false,oN]):=(F6.same _ Ec.lt aa (λB=>by have:=qa.Y _ B;omega)).trans Ec;obtain⟨vE,Y⟩:=av ((cP.ext nJ p m).trans F6) H6;obtain⟨y,U⟩:=aw (jA d.k s6);have bb:=H6.lt;have UZ:Hid (y.length=34):=by unfold Hid;rw[U];rfl
  have Si:=ae U;clear F6 H6 U iA PN Ec nJ Wr;go_wp2_with fail;have hs:∀a:World,a.heap[p]?=u.heap[p]?->a.rangeAt p 0 y:=λa l=>ag.range (show ag a p 179 _ from l.trans Y.blk) y (λj v I=>by
   rw[QG, <-Si.Y,List.getElem?_toArray]
   exact List.getElem?_append_left (List.getElem?_eq_some_iff.1 I).1▸I)
  have cF:∀a:World,a.heap[p]?=u.heap[p]?->a.cell? ⟨p,47,none⟩=some (.int .i64 d.note):=λa l=>ag.cell (show ag a p 179 _ from l.trans Y.blk) 47;have cG:∀a:World,a.heap[p]?=u.heap[p]?->a.cell? ⟨p,48,none⟩=some (.bool d.pj):=λa l=>ag.cell (show ag a p 179 _ from l.trans Y.blk) 48;have cO:∀a:World,a.heap[p]?=u.heap[p]?->a.cell? ⟨p,49,none⟩=some (.slice r.A d.ops.length r.c):=λa l=>ag.cell (show ag a p 179 _ from l.trans Y.blk) 49;refine wp_region_held_drew (S:=λa:World=>a.heap[p]?=u.heap[p]?) (by kernel_rfl) rfl (λhHeld=>?_);refine aU 0 hHeld ?_;refine aU 1 hHeld ?_;refine aU 2 hHeld ?_;refine tkH (i:=3) (oi:=⟨some 102,_,_,_,_,_⟩) rfl (by kernel_rfl) rfl (λ_ _ _ h=>h) hHeld (λa l=>si 75 _ rfl p 0 rfl y _ (hs a l) underlying75 rfl (by rw[UZ.Y];rfl)) ?_;refine aU 4 hHeld ?_;refine aU 5 hHeld ?_;refine aU 6 hHeld ?_;refine aU 7 hHeld ?_;(try simp only[aL]);refine eQ 8 (λK hK=>?_);rw[ay (by rfl)];refine wp_store_mid 75 _ _ rfl (w.heap.size+1+1) 0 y.toArray rfl rfl (ag.there (ag.jd Q) 0 _ (by rw[kC,UZ.Y];decide)) (by rw[kC,UZ.Y];rfl) (by rw[Si.Y];exact gR _ _) ?_;rw[jQ];refine hK.Y _ _ (aM aa y 0) (λhHeld=>?_);clear hK K;(try simp only[aL]);obtain⟨YM,Sd⟩:=av (aY (vs:=y) (cs:=zT) (ag.jd Q) (by rw[UZ.Y];rfl)) (aX (ag.jd PK) (show w.heap.size+1+1+1≠w.heap.size+1+1 by omega) y 0);have M:Hid (∀b,¬(w.heap.size<=b/\b<p)->(ax u.drew (w.heap.size+1+1) 0 y).heap[b]?=u.heap[b]?):=λb B=>aM aa y 0;have GI:Hid (Below 0 u (ax u.drew (w.heap.size+1+1) 0 y)):=az (aZ _) _ _ _ ((ai u).drew.mono (aZ _));clear PK Q;generalize ax u.drew (w.heap.size+1+1) 0 y=w8 at *;obtain⟨De,Ez,a8⟩:=ag.aF Sd;refine eQ 9 (λK hK=>?_);go_simp;refine hK.Y _ _ (by
   refine(dE _ _ _ _ ?_).trans ((dE _ _ _ _ ?_).trans ((dE _ _ _ _ ?_).trans (M p aa)))<;>(show p≠w.heap.size+1+1+1;omega)) (λhHeld=>?_)
  clear hK K;(try simp only[aL]);refine wpAnyH_done (by kernel_rfl) ?_ _;clear hHeld;go_wp2_with fail;have bz:=aY (vs:=[d.note,d.pj,.slice r.A d.ops.length r.c]) (cs:=[oZ,false,oN]) Sd rfl;have bE:=aX YM (show w.heap.size+1+1≠w.heap.size+1+1+1 by omega) [d.note,d.pj,.slice r.A d.ops.length r.c] 0;have cw:∀b,¬(w.heap.size<=b/\b<p)->(ax w8 (w.heap.size+1+1+1) 0 [d.note,d.pj,.slice r.A d.ops.length r.c]).heap[b]?=u.heap[b]?:=λb B=>(aM aa _ 0).trans (M b B);have zz:Below 0 u (ax w8 (w.heap.size+1+1+1) 0 [d.note,d.pj,.slice r.A d.ops.length r.c]):=az (aZ _) _ _ _ GI;change bodyPost _ _ _ _ _ (ax w8 (w.heap.size+1+1+1) 0 [d.note,d.pj,.slice r.A d.ops.length r.c]);clear De Ez a8 M GI Sd YM;generalize ax w8 (w.heap.size+1+1+1) 0 [d.note,d.pj,.slice r.A d.ops.length r.c]=w9 at *;have iX:=run_loadVar_mid (P:=prog) w9 (w.heap.size+1+1) 0 75 y _ (ag.range bE y (λj v I=>by rw[List.getElem?_toArray];exact I)) underlying75 rfl (by rw[UZ.Y];rfl);have cv:=run_loadVar_mid (P:=prog) w9 (w.heap.size+1+1+1) 0 138 [d.note,d.pj,.slice r.A d.ops.length r.c] _ (ag.range bz _ (λj v I=>by rw[List.getElem?_toArray];exact I)) underlying138 rfl (by kernel_rfl);exact bodyPost_ret (E6 results69 rfl rfl iX cv) rfl (XI.fin Y vE HP cw zz (by rw[<-Si.Y]))
end
end Go.Proofs.YtpfbfhfcbdbglaaGreat
