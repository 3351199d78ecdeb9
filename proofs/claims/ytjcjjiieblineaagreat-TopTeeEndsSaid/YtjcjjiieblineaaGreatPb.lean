/- Walks and plain facts. No condition. -/
import Derived.Test.YtjcjjiieblineaaGreatPa
namespace Go.Proofs.YtjcjjiieblineaaGreat
open Go.RowKit Go.Proofs.Tryz
set_option maxHeartbeats 8000000
set_option maxRecDepth 100000
set_option linter.all false
variable {w w' w1:World}{n g base k m i b base' top size:Nat}{α:Type}{A:Option Addr}{e:TypeId}{v vl vg vc:Value}{a:Act}{P:Program}{zs L C:List Int}{Q:Exit->Act->World->Prop}{ops:Array Oper}{o:Oper}{ys args:Array Value}{K:Act->World->Prop}{E:Prop}{rest:List Oper}{kp:Bool}{row:Option Nat}{fr:Nat × Nat}{z:α}
theorem ae{p:Prop}(h:p):Hid p:=h
theorem av{a b:Prop}(g:a)(h:b):Hid a/\Hid b:=⟨g,h⟩
theorem aZ{a b c:Prop}(g:a)(h:b)(i:c):Hid a/\Hid b/\Hid c:=⟨g,h,i⟩
theorem bN{a b c d:Prop}(g:a)(h:b)(i:c)(j:d):Hid a/\Hid b/\Hid c/\Hid d:=⟨g,h,i,j⟩
theorem dh{a b c d e:Prop}(g:a)(h:b)(i:c)(j:d)(k:e):Hid a/\Hid b/\Hid c/\Hid d/\Hid e:=⟨g,h,i,j,k⟩
theorem cT{a b c d e f:Prop}(g:a)(h:b)(i:c)(j:d)(k:e)(l:f):Hid a/\Hid b/\Hid c/\Hid d/\Hid e/\Hid f:=⟨g,h,i,j,k,l⟩
theorem kR{k:IntKind}{a b:Int}(h:a=b):Ending.returned (.int k a)=.returned (.int k b):=by rw[h]
theorem cr{a b:Bool}(h:a=b):Ending.returned (.bool a)=.returned (.bool b):=by rw[h]
theorem bb{a:Addr}(h:w.cell? a=some v):a.block<w.heap.size:=by
 rcases Nat.lt_or_ge a.block w with b|b
 ·exact b
 ·simp[World.cell?,Array.getElem?_eq_none b]at h
theorem add_zero(a:Addr):a.add 0=a:=rfl
def jy(w c:World):Prop:=∃q,c=w.drewN q
theorem jy.refl(w:World):jy w w:=⟨0,rfl⟩
theorem jy.trans{a b c:World}(h:jy a b)(k:jy b c):jy a c:=by obtain⟨q,rfl⟩:=h;obtain⟨r,rfl⟩:=k;exact⟨_,World.drewN_drewN _ _ _⟩
theorem jy.more{a:World}(h:jy a w)(n:Nat):jy a (w.drewN n):=h.trans ⟨n,rfl⟩
theorem jy.one{a:World}(h:jy a w):jy a w.drew:=h.trans ⟨1,rfl⟩
theorem jy.cell(h:jy w w')(a:Addr):w'.cell? a=w.cell? a:=by obtain⟨q,rfl⟩:=h;rfl
theorem jy.below(h:jy w w')(B:Nat):Below B w w':=by obtain⟨q,rfl⟩:=h;exact bV (Below.refl _ _) _
theorem jy.quiet{f:FuncId}(h:Calls P f args (w.drewN n) fun e w'=>e=.returned v/\jy (w.drewN n) w'):Calls P f args (w.drewN n) fun e w'=>e=.returned v/\∃m,w'=w.drewN m:=h.mono fun _ _ ⟨he,_,hm⟩=>⟨he,_,hm.trans (World.drewN_drewN _ _ _)⟩
theorem r7{f:FuncId}(h:Calls P f args (w.drewN n) fun e w'=>e=.returned v/\w.drewN n=w'):Calls P f args (w.drewN n) fun e w'=>e=.returned v/\∃m,w'=w.drewN m:=h.mono fun _ _ ⟨he,hm⟩=>⟨he,_,hm.symm⟩
theorem ai{a b c:World}(h:Below a a b)(k:Below b b c):Below a a c:=h.trans (k.mono h.size)
theorem ak{a:World}(h:Below a a w)(o:Obj):Below a a (w.alloc o):=h.alloc h.size o
theorem aj(a:World):Below a a a:=Below.refl _ _
theorem jy.ai(h:jy w w'):Below w w w':=h.below _
theorem tq(a:Addr)(i j:Nat):(a.add i).add j=a.add (i+j):=by unfold Addr.add;by_cases b:i=0<;>by_cases c:j=0<;>simp[b,c,Nat.add_assoc]
theorem oP(b o k:Nat):(⟨b,o,none⟩:Addr).add k=⟨b,o+k,none⟩:=by unfold Addr.add;split<;>simp_all
theorem ltW{a:World}(h:Below n a w)(c:g<a.heap.size):g<w.heap.size:=bL c h.size
theorem add_lit(a:Addr)(n:Nat)(h:n≠0):a.add n=⟨a.block,a.off+n,none⟩:=by unfold Addr.add;rw[ah h]
def Rd(w:World)(A:Option Addr)(xs:List Value):Prop:=∀j u,xs[j]?=some u->∃a,A=some a/\w.cell? (a.add j)=some u
def bJ(w:World)(k:IntKind)(A:Option Addr)(f:List Int):Prop:=Rd w A (f.map (Value.int k))
section
variable{w w':World} {k:IntKind} {A:Option Addr} {zs:List Int} {xs:List Value}
theorem Rd.nil(w:World)(A:Option Addr):Rd w A []:=fun i z h=>by simp at h
theorem bJ.nil(w:World)(k:IntKind)(A:Option Addr):bJ w k A []:=Rd.nil w A
theorem Rd.below(h:Rd w A xs)(l:Below w w w'):Rd w' A xs:=by intro i z d;obtain⟨b,c,a⟩:=h i z d;exact⟨b,c,(l.cell (bb a)).trans a⟩
theorem bJ.below(h:bJ w k A zs)(l:Below w w w'):bJ w' k A zs:=Rd.below h l
theorem Rd.alloc(h:Rd w A xs)(o:Obj):Rd (w.alloc o) A xs:=h.below ((Below.refl _ _).alloc (aS _) o)
theorem bJ.alloc(h:bJ w k A zs)(o:Obj):bJ (w.alloc o) k A zs:=Rd.alloc h o
theorem Rd.drew(h:Rd w A xs)(f:jy w w'):Rd w' A xs:=h.below (f.below _)
theorem bJ.drew(h:bJ w k A zs)(f:jy w w'):bJ w' k A zs:=Rd.drew h f
theorem bJ.tail{c:Addr}{z:Int}(h:bJ w k (some c) (z::zs)):bJ w k (some ⟨c.block,c.off+1,none⟩) zs:=by
 intro j u e;obtain⟨b,a,d⟩:=h (1+j) u (by rw[Nat.add_comm];exact e);injection a with a
 subst a;refine⟨_,rfl,?_⟩;rw[<-add_lit c 1 ag,tq];exact d
theorem bJ.at_(h:bJ w k A zs)(u:i<zs.length):∃a z,A=some a/\zs[i]?=some z/\w.cell? (a.add i)=some (.int k z):=by obtain⟨a,b,c⟩:=h i (.int k zs[i]) (by simp[u]);exact⟨a,zs[i],b,cY u,c⟩
theorem Rd.grown(h:Rd w A xs)(l:w.grownBy w' row)(r:∀a,A=some a->xs≠[]->some a.block≠row):Rd w' A xs:=by
 intro i z d;obtain⟨a,c,e⟩:=h i z d;have b:xs≠[]:=by rintro rfl;simp at d
 refine⟨a,c,l.cell e ?_⟩;have:=r a c b;have f:(a.add i).block=a.block:=by unfold Addr.add;split<;>rfl
 rw[f];exact this
theorem Rd.one(w:World)(v:Value)(e:TypeId):Rd (w.alloc (.cells #[v] e)) (some ⟨w,0,none⟩) [v]:=fun j u a=>⟨_,rfl,cell_one_new w v e j u a⟩
theorem Rd.lit(w:World)(vs:List Value)(e:TypeId):Rd (w.alloc (.cells vs.toArray e)) (some ⟨w,0,none⟩) vs:=by
 intro j u b;refine⟨_,rfl,?_⟩;have a:((⟨w,0,none⟩:Addr).add j)=⟨w,j,none⟩:=by unfold Addr.add;split<;>simp_all
 rw[a];rw[cell_of_row _ w j vs.toArray e (0,0) (heap_alloc_new w _)];simpa using b
theorem Rd.Di(w:World)(d:List Value)(e:TypeId)(h:g=w.heap.size):Rd (w.alloc (.cells d.toArray e)) (some ⟨g,0,none⟩) d:=h▸Rd.lit w d e
end
def af(w:World)(g:Nat)(t:TypeId)(cs:Array Value):Prop:=w.heap[g]?=some (.cells cs t (0,0))
section
variable{w w':World} {g:Nat} {t:TypeId} {cs:Array Value}
theorem af.lt(h:af w g t cs):g<w.heap.size:=by
 rcases Nat.lt_or_ge g w with a|a
 ·exact a
 ·unfold af at h;rw[Array.getElem?_eq_none a]at h;cases h
theorem af.cell(h:af w g t cs)(i:Nat):w.cell? ⟨g,i,none⟩=cs[i]?:=cell_of_row w g i cs t (0,0) h
theorem af.free(h:af w g t cs)(i:Nat):w.frozen? ⟨g,i,none⟩=false:=by unfold af at h;simp[World.frozen?,h]
theorem af.aM(h:af w g t cs):(∀i,w.cell? ⟨g,i,none⟩=cs[i]?)/\(∀i,w.frozen? ⟨g,i,none⟩=false)/\g<w.heap.size:=⟨h.cell,h.free,h.lt⟩
theorem af.new(w:World)(t:TypeId)(cs:Array Value):af (w.alloc (.cells cs t)) w t cs:=heap_alloc_new w _
theorem af.newAt(w:World)(t:TypeId)(cs:Array Value){g:Nat}(h:g=w.heap.size):af (w.alloc (.cells cs t)) g t cs:=h▸af.new w t cs
theorem af.drewN(h:af w g t cs)(n:Nat):af (w.drewN n) g t cs:=h
theorem af.alloc(h:af w g t cs)(o:Obj):af (w.alloc o) g t cs:=(Below.heap_alloc w o g h.lt).trans h
theorem af.bj(h:af w g t cs)(i:Nat)(u:Value):af (w.setCell ⟨g,i,none⟩ u) g t (cs.setIfInBounds i u):=by unfold af at h ⊢;simp[World.setCell,Array.getElem?_modify,h]
theorem af.bO(h:af w g t cs){p:Addr}(f:g≠p.block)(u:Value):af (w.setCell p u) g t cs:=(dp w p u g f).trans h
theorem af.below{B:Nat}(h:af w g t cs)(l:Below B w w')(r:g<B):af w' g t cs:=(l.block g r).trans h
theorem af.ai(h:af w g t cs)(l:Below w w w'):af w' g t cs:=h.below l h.lt
theorem af.drew(h:af w g t cs)(f:jy w w'):af w' g t cs:=by obtain⟨q,rfl⟩:=f;exact h
theorem af.grown(h:af w g t cs)(d:w.grownBy w' row)(f:some g≠row):af w' g t cs:=(d.block g h.lt f).trans h
end
def Dj(w:World)(g:Nat)(t:TypeId)(k:IntKind)(c:List Int):Prop:=af w g t (c.map (Value.int k)).toArray
section
variable{w w':World} {g:Nat} {t:TypeId} {k:IntKind} {zs:List Int}
theorem Dj.cell(h:Dj w g t k zs){z:Int}(f:zs[i]?=some z):w.cell? ⟨g,i,none⟩=some (.int k z):=by rw[af.cell h i];simp[f]
theorem Dj.bj(h:Dj w g t k zs)(i:Nat)(z:Int):Dj (w.setCell ⟨g,i,none⟩ (.int k z)) g t k (zs.set i z):=by have:=af.bj h i (.int k z);unfold Dj;rw[List.map_set];simpa using this
theorem Dj.rd(h:Dj w g t k zs):bJ w k (some ⟨g,0,none⟩) zs:=by
 intro j u b;refine⟨_,rfl,?_⟩;have a:((⟨g,0,none⟩:Addr).add j)=⟨g,j,none⟩:=by unfold Addr.add;split<;>simp_all
 rw[a,af.cell h j];simpa using b
end
theorem tu{f:α->List Value}(h:∀c,(f c).length=m)(d:List α):(d.flatMap f).length=d.length*m:=by
 induction d with
 |nil=>simp
 |cons c l a=>simp[h,a,Nat.add_mul,Nat.add_comm]
theorem xK{f:α->List Value}(d:∀c,(f c).length=m):∀(a:List α) (i:Nat) (c:α) (j:Nat),a[i]?=some c->j<m->(a.flatMap f)[i*m+j]?=(f c)[j]?:=by
 intro a;induction a with
 |nil=>intro i c j h;simp at h
 |cons x l e =>
  intro i c j h b;rcases i with _|i
  ·simp at h;subst h;simp only[List.flatMap_cons,Nat.zero_mul,Nat.zero_add];rw[List.getElem?_append_left (by rw[d];exact b)]
  ·simp only[List.getElem?_cons_succ]at h;simp only[List.flatMap_cons];rw[List.getElem?_append_right (by rw[d,Nat.add_mul];omega),d];rw[show(i+1)*m+j-m=i*m+j by rw[Nat.add_mul];omega];exact e i c j h b
def dI(w:World)(f:α->List Value)(A:Option Addr)(cs:List α):Prop:=Rd w A (cs.flatMap f)
section
variable{α:Type} {w w':World} {f:α->List Value} {A:Option Addr} {cs:List α}
theorem dI.nil(w:World)(f:α->List Value)(A:Option Addr):dI w f A []:=Rd.nil w A
theorem dI.below(h:dI w f A cs)(l:Below w w w'):dI w' f A cs:=Rd.below h l
theorem dI.drew(h:dI w f A cs)(l:jy w w'):dI w' f A cs:=Rd.drew h l
theorem dI.alloc(h:dI w f A cs)(o:Obj):dI (w.alloc o) f A cs:=Rd.alloc h o
theorem dI.at_(D:∀c,(f c).length=m)(G:0<m)(h:dI w f A cs)(F:i<cs.length) :
 ∃a c,A=some a/\cs[i]?=some c/\∀(j:Nat) (u:Value),(f c)[j]?=some u->w.cell? ((a.add (i*m)).add j)=some u:=by
 have k:=cY F
 have d:∀(j:Nat) (u:Value),(f cs[i])[j]?=some u->∃a,A=some a/\w.cell? ((a.add (i*m)).add j)=some u:=by
  intro j u g;have o:j<m:=by rw[<-D cs[i]];exact(List.getElem?_eq_some_iff.1 g).1
  obtain⟨a,e,b⟩:=h (i*m+j) u (by rw[xK D cs i cs[i] j k o];exact g);exact⟨a,e,by rw[tq];exact b⟩
 obtain⟨a,e,_⟩:=d 0 ((f cs[i])[0]'(by rw[D];exact G)) (cY _)
 refine⟨a,cs[i],e,k,fun j u g=>?_⟩
 obtain⟨l,b,n⟩:=d j u g
 rw[e]at b
 injection b with b
 subst b
 exact n
end
theorem Rd.BD{d:List Value}(h:w.ownsRow base e size v n d):∃A c,v=.slice A n c/\Rd w A d:=by
 rcases h.2 with⟨rfl,rfl⟩|⟨g,a,b,rfl,i⟩
 ·have:d=[]:=List.eq_nil_of_length_eq_zero (by simpa using h.1);subst this;exact⟨_,_,rfl,Rd.nil _ _⟩
 ·exact⟨_,_,rfl,fun j u f=>⟨_,rfl,h.cells (g:=g) rfl j u f⟩⟩
theorem bJ.BD{k:IntKind}(h:w.ownsRow base e 1 v n (zs.map (Value.int k))):∃A c,v=.slice A zs.length c/\bJ w k A zs:=by
 obtain⟨A,c,rfl,a⟩:=Rd.BD h;have:n=zs.length:=by have:=h.1;simpa using this.symm
 subst this;exact⟨A,c,rfl,a⟩
section
variable{P:Program} (w:World)
theorem wG(base:Nat)(t j e:TypeId)(i:TypeInfo)(size:Nat)(f:P.underlying t=some (.slice e))(d:P.info? e=some i)(v:Value)(n:Nat)(l:List Value)(hown:w.ownsRow base e size v n l)(c:Nat):(Builtin.append_ #[t,t] j #[v,.slice none 0 c]).run P w=.ok v w:=by
 rcases hown.2 with⟨rfl,rfl⟩|⟨g,b,h,rfl,_,_,a,_⟩
 ·simp[Builtin.append_,run_underlying f,sizeOf,typeInfo,d,Builtin.lenOf,Builtin.firstCells]
 ·simp[Builtin.append_,run_underlying f,sizeOf,typeInfo,d,Builtin.lenOf,Builtin.firstCells,a,storeCells]
theorem Tp(base:Nat)(t s e:TypeId)(i:TypeInfo)(z:Value)(size bytes:Nat)(D:P.underlying t=some (.slice e))(x:P.info? e=some i)(M:i.zero=some z)(hsize:i.size=size)(q:i.bytes=bytes)(r:z.cells.size=size)(d:0<size)(v:Value)(n:Nat)(f:List Value)(hown:w.ownsRow base e size v n f)(A:Option Addr)(m c:Nat)(news:List Value)(y:news.length=m*size)(B:Rd w A news)(F:∀u∈news,u.oneCell'=true)(p:n+m<=maxLen)(hbytes:(n+m)*bytes<=140737488355328)(hbase:base<=w.heap.size) :
 ∃a w',(Builtin.append_ #[t,t] s #[v,.slice A m c]).run P w=.ok a w'/\w'.ownsRow base e size a (n+m) (f++news)/\w.grownBy w' v.ownBlock /\
  (a.ownBlock=v.ownBlock\/a.ownBlock=some w.heap.size):=by
 rcases A with _|b
 ·have J:news=[]:=by
   rcases news with _|⟨u,l⟩
   ·rfl
   ·obtain⟨b,h,_⟩:=B 0 u rfl;cases h
  subst J
  have I:m=0:=by
   rcases Nat.eq_zero_or_pos m with g|g
   ·exact g
   ·have:=Nat.mul_pos g d;simp at y;omega
  subst I
  exact⟨v,w,wG w base t s e i size D x v n f hown c,by simpa using hown,World.grownBy.refl w _,.inl rfl⟩
 ·have k:∀j u,news[j]?=some u->w.cell? (b.add j)=some u:=by
   intro j u K;obtain⟨o,h,H⟩:=B j u K;injection h with h
   subst h;exact H
  obtain⟨a,w',hrun,C,E,_,G⟩:=run_append_own_at (P:=P) w base t s e i z size bytes D x M hsize q r d v n f hown b m c news y k F p hbytes hbase
  exact⟨a,w',hrun,C,E,G⟩
theorem FM(s x:Operand)(t:TypeId)(D:o.op=.call {callee:=.builtin .append,args:=#[s,x],argTypes:=#[t,t]})(base:Nat)(e:TypeId)(i:TypeInfo)(z:Value)(size bytes:Nat)(H:P.underlying t=some (.slice e))(y:P.info? e=some i)(J:i.zero=some z)(hsize:i.size=size)(f:i.bytes=bytes)(l:z.cells.size=size)(j:0<size)(v:Value)(n:Nat)(p:List Value)(G:a.eval s=v)(hown:w.ownsRow base e size v n p)(A:Option Addr)(m c:Nat)(news:List Value)(I:a.eval x=.slice A m c)(B:news.length=m*size)(F:Rd w A news)(q:∀u∈news,u.oneCell'=true)(d:n+m<=maxLen)(hbytes:(n+m)*bytes<=140737488355328)(hbase:base<=w.heap.size)(h:∀b w',w'.ownsRow base e size b (n+m) (p++news)->w.grownBy w' v.ownBlock->(b.ownBlock=v.ownBlock\/b.ownBlock=some w.heap.size)->K (a.put o.dst b) w'):o.wp P a w K Q:=by
 obtain⟨b,w',hrun,g,k,r⟩:=Tp (P:=P) w base t o.type e i z size bytes H y J hsize f l j v n p hown A m c news B F q d hbytes hbase
 unfold Oper.wp execOp
 simp only[D,resolve,invoke,builtin,Sem.run_bind,Sem.run_pure,Result.andThen_ok,List.map_toArray,List.map_cons,List.map_nil,G,I,hrun]
 exact h b w' g k r
theorem FN(j:o.guard=none)(s x:Operand)(t:TypeId)(G:o.op=.call {callee:=.builtin .append,args:=#[s,x],argTypes:=#[t,t]})(base:Nat)(e:TypeId)(i:TypeInfo)(z:Value)(size bytes:Nat)(J:P.underlying t=some (.slice e))(D:P.info? e=some i)(N:i.zero=some z)(hsize:i.size=size)(f:i.bytes=bytes)(p:z.cells.size=size)(l:0<size)(v:Value)(n:Nat)(q:List Value)(I:a.eval s=v)(hown:w.ownsRow base e size v n q)(A:Option Addr)(m c:Nat)(news:List Value)(M:a.eval x=.slice A m c)(F:news.length=m*size)(H:Rd w A news)(r:∀u∈news,u.oneCell'=true)(d:n+m<=maxLen)(hbytes:(n+m)*bytes<=140737488355328)(hbase:base<=w.heap.size)(h:∀b w',w'.ownsRow base e size b (n+m) (q++news)->w.grownBy w' v.ownBlock->(b.ownBlock=v.ownBlock\/b.ownBlock=some w.heap.size)->wpList P ops Q rest (a.put o.dst b) w'):wpList P ops Q (o::rest) a w:=wpList_plain j fun _ B=>FM w s x t G base e i z size bytes J D N hsize f p l v n q I hown A m c news M F H r d hbytes hbase fun b w' g k y=>B _ _ (h b w' g k y)
end
theorem Aq{B:Nat}{a:World}{j:List Value}(h:Below B a w)(hown:w.ownsRow base e size v n j)(f:w.grownBy w' v.ownBlock)(c:B<=w.heap.size)(d:B<=base):Below B a w':=h.grown f c fun k b=>bq d (hown.lt k b).1
theorem N0(k:IntKind)(c:List Int):∀u∈c.map (Value.int k),u.oneCell'=true:=by intro u a;obtain⟨z,_,rfl⟩:=List.mem_map.1 a;rfl
def aJ(w:World)(base:Nat)(e:TypeId)(k:IntKind)(v:Value)(l:List Int):Prop:=w.ownsRow base e 1 v l.length (l.map (Value.int k))
section
variable{w w':World} {base:Nat} {e:TypeId} {k:IntKind} {v:Value} {zs:List Int}
theorem aJ.nil(w:World)(base:Nat)(e:TypeId)(k:IntKind):aJ w base e k (.slice none 0 0) []:=World.ownsRow_nil _ _ _ _
theorem aJ.empty(w:World)(e:TypeId)(k:IntKind):aJ (w.alloc (.cells #[] e)) w e k (.slice (some ⟨w,0,none⟩) 0 0) []:=World.ownsRow_lit w #[] 0 (aS _) (aV _) rfl
theorem aJ.lit(w:World)(e:TypeId)(k:IntKind)(f:List Int)(l:f.length<=9223372036854775807):aJ (w.alloc (.cells (f.map (Value.int k)).toArray e)) w e k (.slice (some ⟨w,0,none⟩) f.length f.length) f:=World.ownsRow_lit w (f.map (Value.int k)).toArray f.length (aS _) (by unfold maxLen;omega) aD
theorem aJ.rd(h:aJ w base e k v zs):∃A c,v=.slice A zs.length c/\bJ w k A zs:=bJ.BD h
theorem aJ.alloc(h:aJ w base e k v zs)(o:Obj):aJ (w.alloc o) base e k v zs:=World.ownsRow.alloc h o
theorem aJ.bh{B:Nat}{a:World}(hown:aJ w base e k v zs)(h:Below B a w)(q:w.grownBy w' v.ownBlock)(f:B<=w.heap.size)(l:B<=base):Below B a w':=Aq h hown q f l
theorem aJ.form(h:aJ w base e k v zs)(hne:zs≠[]):∃g c,v=.slice (some ⟨g,0,none⟩) zs.length c/\base<=g/\g<w.heap.size:=by exact aba
theorem aJ.cell{c:Nat}(h:aJ w base e k (.slice (some ⟨g,0,none⟩) n c) zs){z:Int}(f:zs[i]?=some z):w.cell? ⟨g,i,none⟩=some (.int k z):=by
 have b:n=zs.length:=by exact YU
 subst b;have a:=(List.getElem?_eq_some_iff.1 f).1;rw[World.ownsRow.cellAt h i (by simpa using a)];simp[f]
theorem aJ.frozen{c:Nat}(h:aJ w base e k (.slice (some ⟨g,0,none⟩) n c) zs)(i:Nat):w.frozen? ⟨g,i,none⟩=false:=by
 have a:n=zs.length:=by exact YU
 subst a;exact World.ownsRow.frozenAt h i
theorem aJ.stored{c:Nat}(h:aJ w base e k (.slice (some ⟨g,0,none⟩) n c) zs)(i:Nat)(z:Int) :
 aJ (w.setCell ⟨g,i,none⟩ (.int k z)) base e k (.slice (some ⟨g,0,none⟩) n c) (zs.set i z):=by
 have a:n=zs.length:=by exact YU
 subst a
 have:=(World.ownsRow.stored h i (.int k z)).1
 unfold aJ
 rw[cq,List.map_set]
 exact this
end
def adO(k:IntKind)(f:List Int)(w:World)(e:Ending)(c:World):Prop:=(∃B d,e=.returned (.slice B f.length d)/\bJ c k B f)/\Below w w c
def aH(w:World)(base:Nat)(e:TypeId)(m:Nat)(f:α->List Value)(v:Value)(cs:List α):Prop:=w.ownsRow base e m v cs.length (cs.flatMap f)
section
variable{α:Type} {w w':World} {base:Nat} {e:TypeId} {m:Nat} {f:α->List Value} {v:Value} {cs:List α}
theorem aH.nil(w:World)(base:Nat)(e:TypeId)(m:Nat)(f:α->List Value):aH w base e m f (.slice none 0 0) []:=⟨aD,.inl ⟨rfl,rfl⟩⟩
theorem aH.rd(h:aH w base e m f v cs):∃A c,v=.slice A cs.length c/\dI w f A cs:=Rd.BD h
theorem aH.alloc(h:aH w base e m f v cs)(o:Obj):aH (w.alloc o) base e m f v cs:=World.ownsRow.alloc h o
theorem aH.bh{B:Nat}{a:World}(hown:aH w base e m f v cs)(h:Below B a w)(r:w.grownBy w' v.ownBlock)(l:B<=w.heap.size)(q:B<=base):Below B a w':=Aq h hown r l q
theorem aH.ai(h:aH w base e m f v cs)(hb:Below w w w'):aH w' base e m f v cs:=by exact WN
theorem aH.bO(h:aH w base e m f v cs){t:TypeId}{D:Array Value}(hg:af w g t D)(hne:e≠t)(i:Nat)(u:Value):aH (w.setCell ⟨g,i,none⟩ u) base e m f v cs:=by exact abb
theorem aH.other(h:aH w base e m f v cs){t:TypeId}{l:Array Value}(c:w.heap[g]?=some (.cells l t fr))(d:e≠t):some g≠v.ownBlock:=by
 rcases h.2 with⟨rfl,_⟩|⟨b,cap,a,rfl,_,j,_⟩
 ·simp[Value.ownBlock]
 ·intro i;have:g=b:=by simpa[Value.ownBlock]using i
  subst this;rw[j]at c;injection c with c
  injection c with _ ht
  exact d ht
end
def Tq(k:IntKind)(c:List Int)(w:World)(e:Ending)(f:World):Prop:=(∃B d,e=.returned (.slice B c.length d)/\c.length<=d/\bJ f k B c)/\Below w w f
theorem Tq.bD{k:IntKind}{e:Ending}(h:Tq k zs w e w'):adO k zs w e w':=by obtain⟨⟨B,d,a,_,b⟩,c⟩:=h;exact⟨⟨B,d,a,b⟩,c⟩
theorem aJ.adP{a:World}{k:IntKind}(h:aJ w base e k v zs)(d:Below a a w):Tq k zs a (.returned v) w:=by
 rcases h.2 with⟨rfl,f⟩|⟨g,cap,b,rfl,_,_,i,_⟩
 ·have:zs=[]:=List.eq_nil_of_length_eq_zero f;subst this;exact⟨⟨_,_,rfl,aS _,bJ.nil _ _ _⟩,d⟩
 ·obtain⟨A,c,l,j⟩:=h.rd;injection l with h1 _ h2
  subst h1;subst h2;exact⟨⟨_,_,rfl,i,j⟩,d⟩
section
variable{P:Program} (w:World)
theorem cG(q:o.guard=none)(s x:Operand)(t:TypeId)(J:o.op=.call {callee:=.builtin .append,args:=#[s,x],argTypes:=#[t,t]})(base:Nat)(e:TypeId)(m bytes:Nat)(z:Value)(f:α->List Value)(F:∀c,(f c).length=m)(l:∀c,∀u∈f c,u.oneCell'=true)(O:P.underlying t=some (.slice e))(G:(P.info? e).map (fun i=>(i.zero,i.size,i.bytes))=some (some z,m,bytes))(r:z.cells.size=m)(I:0<m)(v:Value)(d:List α)(N:a.eval s=v)(hown:aH w base e m f v d)(A:Option Addr)(n c:Nat)(news:List α)(R:a.eval x=.slice A n c)(H:news.length=n)(M:dI w f A news)(hbytes:(d.length+news.length)*bytes<=140737488355328)(D:d.length+news.length<=9223372036854775807)(hbase:base<=w.heap.size)(h:∀b w',aH w' base e m f b (d++news)->w.grownBy w' v.ownBlock->(b.ownBlock=v.ownBlock\/b.ownBlock=some w.heap.size)->wpList P ops Q rest (a.put o.dst b) w'):wpList P ops Q (o::rest) a w:=by
 obtain⟨i,E,j,k,p⟩:=info_parts G
 subst H
 refine FN w q s x t J base e i z m bytes O E j k p r I v d.length _ N hown A news.length c (news.flatMap f) R (tu F _) M (fun u C=>?_) (by unfold maxLen;omega) hbytes hbase
  fun b w' l y B=>h b w' ?_ y B
 ·obtain⟨x,_,g⟩:=List.mem_flatMap.1 C;exact l x u g
 ·unfold aH;rw[eW,List.flatMap_append];exact l
theorem I7(s x:Operand)(t:TypeId)(u:o.op=.call {callee:=.builtin .append,args:=#[s,x],argTypes:=#[t,t]})(base:Nat)(e:TypeId)(k:IntKind)(D:P.underlying t=some (.slice e))(q:(P.info? e).map (fun i=>(i.zero,i.size,i.bytes))=some (some (.int k 0),1,8))(v:Value)(d:List Int)(B:a.eval s=v)(hown:aJ w base e k v d)(A:Option Addr)(m c:Nat)(news:List Int)(F:a.eval x=.slice A m c)(r:news.length=m)(y:bJ w k A news)(hbytes:(d.length+news.length)*8<=140737488355328)(hbase:base<=w.heap.size)(h:∀b w',aJ w' base e k b (d++news)->w.grownBy w' v.ownBlock->(b.ownBlock=v.ownBlock\/b.ownBlock=some w.heap.size)->K (a.put o.dst b) w'):o.wp P a w K Q:=by
 obtain⟨i,z,f,g,j⟩:=info_parts q
 subst r
 refine FM w s x t u base e i (.int k 0) 1 8 D z f g j rfl ag v d.length _ B hown A news.length c (news.map (Value.int k)) F aD y (N0 _ _) (by unfold maxLen;omega) hbytes hbase
  fun b w' l n p=>h b w' ?_ n p
 unfold aJ
 rw[eW,List.map_append]
 exact l
theorem cH(l:o.guard=none)(s x:Operand)(t:TypeId)(u:o.op=.call {callee:=.builtin .append,args:=#[s,x],argTypes:=#[t,t]})(base:Nat)(e:TypeId)(k:IntKind)(D:P.underlying t=some (.slice e))(q:(P.info? e).map (fun i=>(i.zero,i.size,i.bytes))=some (some (.int k 0),1,8))(v:Value)(f:List Int)(B:a.eval s=v)(hown:aJ w base e k v f)(A:Option Addr)(m c:Nat)(news:List Int)(F:a.eval x=.slice A m c)(r:news.length=m)(y:bJ w k A news)(hbytes:(f.length+news.length)*8<=140737488355328)(hbase:base<=w.heap.size)(h:∀b w',aJ w' base e k b (f++news)->w.grownBy w' v.ownBlock->(b.ownBlock=v.ownBlock\/b.ownBlock=some w.heap.size)->wpList P ops Q rest (a.put o.dst b) w'):wpList P ops Q (o::rest) a w:=wpList_plain l fun _ n=>I7 w s x t u base e k D q v f B hown A m c news F r y hbytes hbase fun b w' d g j=>n _ _ (h b w' d g j)
theorem BF(D:o.guard=none)(l c:Operand)(t:TypeId)(d:o.op=Op.makeSlice t l c)(base:Nat)(e:TypeId)(k:IntKind)(H:P.underlying t=some (.slice e))(F:(P.info? e).map (fun i=>(i.zero,i.size,i.bytes))=some (some (.int k 0),1,8))(p j:IntKind)(L C:Int)(n:Nat)(G:a.eval l=.int p L)(B:a.eval c=.int j C)(y:L=(n:Int))(u:C=(n:Int))(q:8*n<=281474976710656)(r:base<=w.heap.size)(x:∀w',aJ w' base e k (.slice (some ⟨w,0,none⟩) n n) (List.replicate n 0)->Below w w w'->wpList P ops Q rest (a.put o.dst (.slice (some ⟨w,0,none⟩) n n)) w') :
 wpList P ops Q (o::rest) a w:=by
 obtain⟨i,z,b,f,g⟩:=info_parts F
 refine wpList_make_full w D l c t d base e i (.int k 0) 1 H z b f p j L C n G B y u (by rw[g];exact q) (by unfold maxLen;omega) r fun w' h s=>x w' ?_ ((Below.refl _ _).grown s (aS _) (fun k v=>by cases v))
 unfold aJ
 have m:(madeCells (Value.int k 0).cells (n*1)).toList=List.replicate n (Value.int k 0):=by rw[Nat.mul_one];exact toList_madeCells_one _ _
 rw[m]at h
 rw[gp,List.map_replicate]
 exact h
theorem bJ.WO(k:IntKind)(z:Int)(e:TypeId)(h:g=w.heap.size):bJ (w.alloc (.cells #[.int k z] e)) k (some ⟨g,0,none⟩) [z]:=by subst h;exact Rd.one w _ e
theorem bJ.one(k:IntKind)(z:Int)(e:TypeId):bJ (w.alloc (.cells #[.int k z] e)) k (some ⟨w,0,none⟩) [z]:=Rd.one w _ e
end
theorem dv{r:List α}(h:r[k]?=some z):k<r.length:=(List.getElem?_eq_some_iff.1 h).1
theorem gy{c:List α}(h:c[k]?=some z):c.take (k+1)=c.take k++[z]:=by rw[List.take_succ_eq_append_getElem (dv h)];congr 2;exact(List.getElem?_eq_some_iff.1 h).2
theorem tv{c:List α}(d:n=c.length)(h:n<=k):c.take k=c:=List.take_of_length_le aa
theorem Dk{c d:List α}(l:n=c.length)(p:n=d.length)(f:¬k<n)(h:∀(j:Nat) (x y:α),j<k->c[j]?=some x->d[j]?=some y->x=y):c=d:=by apply List.ext_getElem aa;intro i a b;exact h i _ _ aa (cY a) (cY b)
theorem BG{c:List α}(h:c[k]?=some z):c.drop k=z::c.drop (k+1):=by rw[List.drop_eq_getElem_cons (dv h),(List.getElem?_eq_some_iff.1 h).2]
theorem bJ.take{k:IntKind}(h:bJ w k A zs)(m:Nat):bJ w k A (zs.take m):=by
 intro j u a;refine h j u ?_;rw[List.map_take]at a;have b:j<m:=by have:=(List.getElem?_eq_some_iff.1 a).1;rw[fF]at this;omega
 rwa [List.getElem?_take_of_lt b]at a
theorem aJ.cap{k:IntKind}{c:Nat}(h:aJ w base e k (.slice A n c) zs):n=zs.length/\n<=c:=by exact WQ
theorem bJ.oQ{k:IntKind}(h:bJ w k none zs):zs=[]:=by
 rcases zs with _|⟨z,l⟩
 ·rfl
 ·obtain⟨_,h,_⟩:=h 0 _ rfl;cases h
theorem bJ.drop{k:IntKind}{f:Addr}(h:bJ w k (some f) zs)(m:Nat):bJ w k (some (f.add m)) (zs.drop m):=by
 intro j u b;obtain⟨c,a,d⟩:=h (m+j) u (by rw[List.map_drop,List.getElem?_drop]at b;exact b);injection a with a
 subst a;exact⟨_,rfl,by rw[tq];exact d⟩
theorem aJ.ai{k:IntKind}(h:aJ w base e k v zs)(hb:Below w w w'):aJ w' base e k v zs:=by exact WN
theorem aJ.bD{k:IntKind}(h:aJ w base e k v zs)(l:base'<=base):aJ w base' e k v zs:=by exact WR
theorem aJ.shape{k:IntKind}(h:aJ w base e k v zs):∃A c,v=.slice A zs.length c:=by obtain⟨a,b,d,_⟩:=h.rd;exact⟨a,b,d⟩
theorem kH(l:o.guard=none)(s x:Operand)(t:TypeId)(u:o.op=.call {callee:=.builtin .append,args:=#[s,x],argTypes:=#[t,t]})(base:Nat)(e:TypeId)(k:IntKind)(F:P.underlying t=some (.slice e))(q:(P.info? e).map (fun i=>(i.zero,i.size,i.bytes))=some (some (.int k 0),1,8))(v:Value)(f:List Int)(D:a.eval s=v)(hown:aJ w base e k v f)(A:Option Addr)(m c:Nat)(news:List Int)(G:a.eval x=.slice A m c)(r:news.length=m)(y:bJ w k A news)(hbytes:(f.length+news.length)*8<=140737488355328)(hbase:base<=w.heap.size)(h:∀b w',aJ w' base e k b (f++news)->w.grownBy w' v.ownBlock->(b.ownBlock=v.ownBlock\/b.ownBlock=some w.heap.size)->K (a.put o.dst b) w') :
 if Region.wanted o (yielded ops a.tmps)=true then Oper.wp P o a w K Q else E:=by
 have d:Region.wanted o (yielded ops a.tmps)=true:=by simp[Region.wanted,l]
 rw[au d]
 exact I7 w s x t u base e k F q v f D hown A m c news G r y hbytes hbase h
theorem mh(l:o.guard=none)(s x:Operand)(t:TypeId)(J:o.op=.call {callee:=.builtin .append,args:=#[s,x],argTypes:=#[t,t]})(base:Nat)(e:TypeId)(m bytes:Nat)(z:Value)(f:α->List Value)(F:∀c,(f c).length=m)(j:∀c,∀u∈f c,u.oneCell'=true)(O:P.underlying t=some (.slice e))(G:(P.info? e).map (fun i=>(i.zero,i.size,i.bytes))=some (some z,m,bytes))(r:z.cells.size=m)(I:0<m)(v:Value)(d:List α)(N:a.eval s=v)(hown:aH w base e m f v d)(A:Option Addr)(n c:Nat)(news:List α)(R:a.eval x=.slice A n c)(H:news.length=n)(M:dI w f A news)(hbytes:(d.length+news.length)*bytes<=140737488355328)(D:d.length+news.length<=9223372036854775807)(hbase:base<=w.heap.size)(h:∀b w',aH w' base e m f b (d++news)->w.grownBy w' v.ownBlock->(b.ownBlock=v.ownBlock\/b.ownBlock=some w.heap.size)->K (a.put o.dst b) w') :
 if Region.wanted o (yielded ops a.tmps)=true then Oper.wp P o a w K Q else E:=by
 have L:Region.wanted o (yielded ops a.tmps)=true:=by simp[Region.wanted,l]
 rw[au L]
 obtain⟨i,S,k,p,q⟩:=info_parts G
 subst H
 refine FM w s x t J base e i z m bytes O S k p q r I v d.length _ N hown A news.length c (news.flatMap f) R (tu F _) M (fun u C=>?_) (by unfold maxLen;omega) hbytes hbase
  fun b w' j y B=>h b w' ?_ y B
 ·obtain⟨x,_,g⟩:=List.mem_flatMap.1 C;exact j x u g
 ·unfold aH;rw[eW,List.flatMap_append];exact j
theorem Dl(t e:TypeId)(d:P.underlying t=some (.slice e))(j:(P.info? e).map (fun i=>(i.zero,i.size,i.bytes))=some (some (.int .i64 0),1,8))(A:Option Addr)(n c m:Nat)(X:Int)(h:X=(m:Int))(l:m<=c)(w:World) :
 (Instr.slice t (.slice A n c) none (some X) none).run P w=.ok (.slice A m c) w:=by
 subst h
 obtain⟨i,b,_,g,_⟩:=info_parts j
 have f:0<=(m:Int)/\(m:Int)<=(c:Int):=aa
 by_cases a:c=0
 ·have:m=0:=aa;subst this;subst a;cases A<;>simp[Instr.slice,Instr.sliceBounds,run_underlying d,sizeOf,typeInfo,b,run_sliceBound_if]
 ·simp[Instr.slice,Instr.sliceBounds,run_underlying d,sizeOf,typeInfo,b,run_sliceBound_if,f,a];cases A<;>simp[add_zero]
def ng(A:Option Addr)(c m:Nat):Option Addr:=if c=m then A else A.map (·.add m)
theorem bJ.from{k:IntKind}{c:Nat}(h:bJ w k A zs)(d:zs.length<=c)(m:Nat):bJ w k (ng A c m) (zs.drop m):=by
 unfold ng;by_cases a:c=m
 ·rw[List.drop_of_length_le aa];exact bJ.nil _ _ _
 ·rw[ah a];rcases A with _|b
  ·rw[h.oQ];simp;exact bJ.nil _ _ _
  ·exact h.drop m
theorem mz:(prog.info? 3).map (fun i=>(i.zero,i.size,i.bytes))=some (some (.int .i64 0),1,8):=by kernel_rfl
theorem iy:(prog.info? 44).map (fun i=>(i.zero,i.size,i.bytes))=some (some (.int .u64 0),1,8):=by kernel_rfl
structure Acc where
 (th ki ad wa ol nw:Int)
 ok:Bool
def FO(a:Acc):List Value:=[.int .i64 a.th,.int .i64 a.ki,.int .i64 a.ad,.int .u64 a.wa,.int .u64 a.ol,.int .u64 a.nw,.bool a.ok]
theorem N7(a:Acc):(FO a).length=7:=rfl
theorem N8(a:Acc):∀u∈FO a,u.oneCell'=true:=by intro u b;simp[FO]at b;rcases b with rfl|rfl|rfl|rfl|rfl|rfl|rfl<;>rfl
theorem Oa:(prog.info? 246).map (fun i=>(i.zero,i.size,i.bytes))=some (some (.agg #[.int .i64 0,.int .i64 0,.int .i64 0,.int .u64 0,.int .u64 0,.int .u64 0,.bool false]),7,56):=by kernel_rfl
theorem bK{t:TypeId}{d:List Value}(h:w.ownsRow base e m v n d)(hg:af w g t ys)(hne:e≠t)(i:Nat)(u:Value) :
 (w.setCell ⟨g,i,none⟩ u).ownsRow base e m v n d:=by
 exact abb
theorem dw{j:List Value}(h:w.ownsRow base e m v n j){p:Addr}(q:∀g,v.ownBlock=some g->g≠p.block)(u:Value):(w.setCell p u).ownsRow base e m v n j:=by
 obtain⟨i,c⟩:=h;refine⟨i,?_⟩;rcases c with c|⟨d,a,b,f,k,l,r⟩
 ·exact Or.inl c
 ·refine Or.inr ⟨d,a,b,f,k,?_,r⟩;rw[dp _ _ _ _ (q d (by rw[f];rfl))];exact l
theorem kI{j:List Value}(h:w.ownsRow base e m v n j)(q:w.grownBy w' row)(s:∀g,v.ownBlock=some g->some g≠row):w'.ownsRow base e m v n j:=by
 obtain⟨k,d⟩:=h;refine⟨k,?_⟩;rcases d with d|⟨c,a,b,i,l,f,r⟩
 ·exact Or.inl d
 ·refine Or.inr ⟨c,a,b,i,l,?_,r⟩;rw[q.block c (af.lt f) (s c (by rw[i];rfl))];exact f
theorem dH{l:TypeId}{D F:Nat}{r:Value}{G f:List Value}(h:w.ownsRow base e m v n G)(s:w.ownsRow base' l D r F f)(d:e≠l)(q:v.ownBlock=some g):some g≠r.ownBlock:=by
 rcases h.2 with⟨rfl,_⟩|⟨o,c,j,rfl,_,b,_⟩
 ·simp[Value.ownBlock]at q
 ·have u:o=g:=by simpa[Value.ownBlock]using q
  subst u;rcases s.2 with⟨rfl,_⟩|⟨p,i,k,rfl,_,a,_⟩
  ·simp[Value.ownBlock]
  ·intro t;have:o=p:=by simpa[Value.ownBlock]using t
   subst this;rw[b]at a;injection a with a
   injection a with _ ht
   exact d ht
theorem aX{xs:List Value}(h:w.ownsRow base e m v n xs)(f:v.ownBlock=some g):base<=g/\g<w.heap.size:=by
 rcases h.2 with⟨rfl,_⟩|⟨d,b,c,rfl,i,a,_⟩
 ·simp[Value.ownBlock]at f
 ·have j:d=g:=by simpa[Value.ownBlock]using f
  subst j;exact⟨i,af.lt a⟩
theorem aY{t:TypeId}{xs:List Value}(h:w.ownsRow base e m v n xs)(d:af w g t ys)(f:e≠t):some g≠v.ownBlock:=by
 rcases h.2 with⟨rfl,_⟩|⟨i,b,c,rfl,l,a,_⟩
 ·simp[Value.ownBlock]
 ·intro j;have k:g=i:=by simpa[Value.ownBlock]using j
  subst k;unfold af at d;rw[a]at d;injection d with d
  injection d with _ ht
  exact f ht
theorem af.FP{d:Array Value}{t:TypeId}(h:w.heap[g]?=some (.cells d t fr)):g<w.heap.size:=by
 rcases Nat.lt_or_ge g w with a|a
 ·exact a
 ·rw[Array.getElem?_eq_none a]at h;cases h
theorem fk{t:TypeId}{l:List Value}(h:w.ownsRow base e m v n l)(c:w.heap[g]?=some (.cells ys t fr))(d:e≠t):some g≠v.ownBlock:=by
 rcases h.2 with⟨rfl,_⟩|⟨i,b,f,rfl,o,a,_⟩
 ·simp[Value.ownBlock]
 ·intro j;have k:g=i:=by simpa[Value.ownBlock]using j
  subst k;rw[a]at c;injection c with c
  injection c with _ ht
  exact d ht
structure eu (w:World) (base g:Nat) (vl vg vc:Value) (L:List Int) (G:List Acc) (C:List Int) (kp:Bool):Prop where
 blk:af w g 139 #[vl,vg,vc,.bool kp]
 words:aJ w base 44 .u64 vl L
 log:aH w base 246 7 FO vg G
 counts:aJ w base 3 .i64 vc C
 low:base<=g
def I8(w:World)(base g:Nat)(L:List Int)(G:List Acc)(C:List Int)(c:Bool):Prop:=∃vl vg vc,eu w base g vl vg vc L G C c
section
variable{w w':World} {base g:Nat} {vl vg vc:Value} {L:List Int} {G:List Acc} {C:List Int} {kp:Bool}
theorem eu.ai(h:eu w base g vl vg vc L G C kp)(l:Below w w w'):eu w' base g vl vg vc L G C kp:=⟨h.blk.ai l,h.words.ai l,h.log.ai l,aJ.ai h.counts l,h.low⟩
theorem I8.ai(h:I8 w base g L G C kp)(l:Below w w w'):I8 w' base g L G C kp:=by obtain⟨c,b,a,h⟩:=h;exact⟨c,b,a,h.ai l⟩
theorem eu.alloc(h:eu w base g vl vg vc L G C kp)(o:Obj):eu (w.alloc o) base g vl vg vc L G C kp:=h.ai ((aj w).alloc (aS _) o)
theorem eu.drew(h:eu w base g vl vg vc L G C kp)(q:Nat):eu (w.drewN q) base g vl vg vc L G C kp:=h.ai (bV (aj w) q)
def Rest(w h:World)(g:Nat)(f d c:Value):Prop :=∀b,b<w.heap.size->b≠g->f.ownBlock≠some b->d.ownBlock≠some b->c.ownBlock≠some b->h.heap[b]?=w.heap[b]?
theorem Rest.refl(w:World)(g:Nat)(f d c:Value):Rest w w g f d c:=fun _ _ _ _ _ _=>rfl
theorem Rest.blk{t:TypeId}{f:Array Value}(h:Rest w w' g vl vg vc)(d:af w b t f)(l:b≠g)(r:vl.ownBlock≠some b)(u:vg.ownBlock≠some b)(D:vc.ownBlock≠some b):af w' b t f:=(h b d.lt l r u D).trans d
def FQ(g c:Nat)(h f d:Value):Prop:=g<c/\(∀b,h.ownBlock=some b->b<c)/\(∀b,f.ownBlock=some b->b<c)/\∀b,d.ownBlock=some b->b<c
theorem eu.wH(h:eu w base g vl vg vc L G C kp):FQ g w vl vg vc:=⟨h.blk.lt,fun _ a=>(aX h.words a).2,fun _ a=>(aX h.log a).2,fun _ a=>(aX h.counts a).2⟩
theorem eu.free{t:TypeId}{f:Array Value}(u:Rest w w' g vl vg vc)(r:FQ g top vl vg vc)(l:af w b t f)(D:top<=b):af w' b t f:=by obtain⟨e,a,c,d⟩:=r;exact u.blk l aa (fun h=>by have:=a b h;omega) (fun h=>by have:=c b h;omega) (fun h=>by have:=d b h;omega)
theorem eu.bO(h:eu w base g vl vg vc L G C kp){p:Addr}(f:FQ g top vl vg vc)(r:top<=p.block)(u:Value):eu (w.setCell p u) base g vl vg vc L G C kp:=by obtain⟨i,c,d,e⟩:=f;exact⟨h.blk.bO aa u,dw h.words (fun b a=>by have:=c b a;omega) u,dw h.log (fun b a=>by have:=d b a;omega) u,dw h.counts (fun b a=>by have:=e b a;omega) u,h.low⟩
theorem eu.store{c d f:Nat}(h:eu w base g (.slice (some ⟨c,0,none⟩) f d) vg vc L G C kp)(i:Nat)(z:Int) :
 eu (w.setCell ⟨c,i,none⟩ (.int .u64 z)) base g (.slice (some ⟨c,0,none⟩) f d) vg vc (L.set i z) G C kp:=by
 have b:(Value.slice (some ⟨c,0,none⟩) f d).ownBlock=some c:=rfl
 refine⟨h.blk.bO ?_ _,h.words.stored i z,dw h.log (fun j e a=>?_) _,dw h.counts (fun j e a=>?_) _,h.low⟩
 ·intro a;exact aY h.words h.blk ag (by rw[b];exact congrArg some a)
 ·exact dH h.log h.words ag e (by rw[b];exact congrArg some a)
 ·exact dH h.counts h.words ag e (by rw[b];exact congrArg some a)
theorem eu.form(h:eu w base g vl vg vc L G C kp)(l:L≠[]):∃a b,vl=.slice (some ⟨a,0,none⟩) L.length b/\base<=a/\a<w.heap.size:=h.words.form l
theorem eu.FR{c:Value}{f:List Int}(h:eu w base g vl vg vc L G C kp)(j:aJ w' base 3 .i64 c f)(d:w.grownBy w' vc.ownBlock):eu (w'.setCell ⟨g,2,none⟩ c) base g vl vg c L G f kp:=by have a:af w' g 139 #[vl,vg,vc,.bool kp]:=h.blk.grown d (aY h.counts h.blk ag);have i:aJ w' base 44 .u64 vl L:=kI h.words d (fun b a=>dH h.words h.counts ag a);have e:aH w' base 246 7 FO vg G:=kI h.log d (fun b a=>dH h.log h.counts ag a);exact⟨af.bj a 2 c,bK i a ag _ _,bK e a ag _ _,bK j a ag _ _,h.low⟩
theorem eu.Ob{vg':Value}{d:List Acc}(h:eu w base g vl vg vc L G C kp)(f:aH w' base 246 7 FO vg' d)(c:w.grownBy w' vg.ownBlock):eu (w'.setCell ⟨g,1,none⟩ vg') base g vl vg' vc L d C kp:=by have a:af w' g 139 #[vl,vg,vc,.bool kp]:=h.blk.grown c (aY h.log h.blk ag);have i:aJ w' base 44 .u64 vl L:=kI h.words c (fun b a=>dH h.words h.log ag a);have e:aJ w' base 3 .i64 vc C:=kI h.counts c (fun b a=>dH h.counts h.log ag a);exact⟨af.bj a 1 vg',bK i a ag _ _,bK f a ag _ _,bK e a ag _ _,h.low⟩
end
section
variable{w w1 w2:World} {g:Nat} {vl vg vc vg' uA:Value}
theorem Rest.kS(h:Rest w w1 g vl vg vc){p:Addr}(j:w.heap.size<=p.block)(u:Value):Rest w (w1.setCell p u) g vl vg vc:=fun b f a c d e=>by rw[dp _ _ _ _ aa];exact h b f a c d e
theorem Rest.I9(h:Rest w w1 g vl vg vc)(u:Value):Rest w (w1.setCell ⟨g,i,none⟩ u) g vl vg vc:=fun b f a c d e=>by rw[dp _ _ _ _ a];exact h b f a c d e
theorem Rest.Kz(h:Rest w w1 g vl vg vc){p:Addr}(j:vl.ownBlock=some p.block)(u:Value):Rest w (w1.setCell p u) g vl vg vc:=fun b f c a d e=>by rw[dp _ _ _ _ (fun i=>a (by rw[j,i]))];exact h b f c a d e
theorem Rest.drew(h:Rest w w1 g vl vg vc)(q:Nat):Rest w (w1.drewN q) g vl vg vc:=h
theorem Rest.alloc(h:Rest w w1 g vl vg vc)(l:w.heap.size<=w1.heap.size)(o:Obj):Rest w (w1.alloc o) g vl vg vc:=fun b f a c d e=>by rw[Below.heap_alloc _ _ _ aa];exact h b f a c d e
theorem Rest.trans(h:Rest w w1 g vl vg vc)(u:w.heap.size<=w1.heap.size)(k:Rest w1 w2 g vl vg' uA)(r:∀b,vg'.ownBlock=some b->vg.ownBlock=some b\/w.heap.size<=b)(l:∀b,uA.ownBlock=some b->vc.ownBlock=some b\/w.heap.size<=b):Rest w w2 g vl vg vc:=fun b i c d e f=>by
 refine(k b aa c d (fun a=>?_) (fun a=>?_)).trans (h b i c d e f)
 ·rcases r b a with h|h
  ·exact e h
  ·omega
 ·rcases l b a with h|h
  ·exact f h
  ·omega
theorem Rest.grown(h:Rest w w1 g vl vg vc)(u:w.heap.size<=w1.heap.size)(l:w1.grownBy w2 vg'.ownBlock)(r:∀b,vg'.ownBlock=some b->vg.ownBlock=some b\/w.heap.size<=b):Rest w w2 g vl vg vc:=fun b f c d a e=>by
 rw[l.block b aa (fun i=>?_)]
 ·exact h b f c d a e
 ·rcases r b i.symm with h|h
  ·exact a h
  ·omega
end
def Same(a b:World):Prop:=a=b
theorem Same.to{a b:World}(h:Same a b){Q:World->Prop}(q:Q a):Q b:=by unfold Same at h;exact h▸q
def KA(w:World)(g:Nat)(u0 u1 u2 u3 u4 u5 u6:Value):World:=((((((w.setCell ⟨g,0,none⟩ u0).setCell ⟨g,1,none⟩ u1).setCell ⟨g,2,none⟩ u2).setCell ⟨g,3,none⟩ u3).setCell ⟨g,4,none⟩ u4).setCell ⟨g,5,none⟩ u5).setCell ⟨g,6,none⟩ u6
theorem xL{t:TypeId}{j l q r s u x:Value}(h:af w g t #[j,l,q,r,s,u,x])(u0 u1 u2 u3 u4 u5 u6:Value) :
 (w.setCell ⟨g,0,none⟩ u0).cell? ⟨g,0,none⟩=some u0/\((w.setCell ⟨g,0,none⟩ u0).setCell ⟨g,1,none⟩ u1).cell? ⟨g,1,none⟩=some u1 /\
  (((w.setCell ⟨g,0,none⟩ u0).setCell ⟨g,1,none⟩ u1).setCell ⟨g,2,none⟩ u2).cell? ⟨g,2,none⟩=some u2 /\
  ((((w.setCell ⟨g,0,none⟩ u0).setCell ⟨g,1,none⟩ u1).setCell ⟨g,2,none⟩ u2).setCell ⟨g,3,none⟩ u3).cell? ⟨g,3,none⟩=some u3 /\
  (((((w.setCell ⟨g,0,none⟩ u0).setCell ⟨g,1,none⟩ u1).setCell ⟨g,2,none⟩ u2).setCell ⟨g,3,none⟩ u3).setCell ⟨g,4,none⟩ u4).cell? ⟨g,4,none⟩=some u4 /\
  ((((((w.setCell ⟨g,0,none⟩ u0).setCell ⟨g,1,none⟩ u1).setCell ⟨g,2,none⟩ u2).setCell ⟨g,3,none⟩ u3).setCell ⟨g,4,none⟩ u4).setCell ⟨g,5,none⟩ u5).cell? ⟨g,5,none⟩=some u5 /\
  (KA w g u0 u1 u2 u3 u4 u5 u6).cell? ⟨g,6,none⟩=some u6:=by
 have a:=h.bj 0 u0
 have b:=a.bj 1 u1
 have c:=b.bj 2 u2
 have d:=c.bj 3 u3
 have e:=d.bj 4 u4
 have f:=e.bj 5 u5
 have i:=f.bj 6 u6
 exact⟨by rw[a.cell];simp,by rw[b.cell];simp,by rw[c.cell];simp,by rw[d.cell];simp,by rw[e.cell];simp,by rw[f.cell];simp,by unfold KA;rw[i.cell];simp⟩
theorem Ar(h:Rest w w1 g vl vg vc)(c:w.heap.size<=b)(u0 u1 u2 u3 u4 u5 u6:Value):Rest w (KA w1 b u0 u1 u2 u3 u4 u5 u6) g vl vg vc:=((((((h.kS c _).kS c _).kS c _).kS c _).kS c _).kS c _).kS c _
theorem r8{B:Nat}(h:Below B w w1)(c:B<=b)(u0 u1 u2 u3 u4 u5 u6:Value):Below B w (KA w1 b u0 u1 u2 u3 u4 u5 u6):=((((((h.setCell c _).setCell c _).setCell c _).setCell c _).setCell c _).setCell c _).setCell c _
theorem eu.Y{G:List Acc}(h:eu w base g vl vg vc L G C kp){p:Addr}(l:g≠p.block)(r:vl.ownBlock≠some p.block)(D:vg.ownBlock≠some p.block)(F:vc.ownBlock≠some p.block)(u:Value) :
 eu (w.setCell p u) base g vl vg vc L G C kp :=
 ⟨h.blk.bO l u,dw h.words (fun b a c=>r (by rw[a,c])) u,dw h.log (fun b a c=>D (by rw[a,c])) u,dw h.counts (fun b a c=>F (by rw[a,c])) u,h.low⟩
theorem At{G:List Acc}(h:eu w base g vl vg vc L G C kp)(c:g≠b)(d:vl.ownBlock≠some b)(f:vg.ownBlock≠some b)(j:vc.ownBlock≠some b)(u0 u1 u2 u3 u4 u5 u6:Value) :
 eu (KA w b u0 u1 u2 u3 u4 u5 u6) base g vl vg vc L G C kp :=
 ((((((h.Y c d f j _).Y c d f j _).Y c d f j _).Y c d f j _).Y c d f j _).Y c d f j _).Y c d f j _
def js(C:List Int)(t:Int):List Int :=
 if t<0\/64<=t then C else
  let D:=C++List.replicate (t.toNat+1-C.length) 0
  D.set t.toNat (wrap64 (D.getD t.toNat 0+1))
theorem FT(t:Int)(h:C.length<=64):(js C t).length<=64:=by
 unfold js;split
 ·exact h
 ·simp;omega
def WS(g:Int):Int:=(g*2+1)%18446744073709551616
def Dm(x g:Int):Bool:=x==0 || x==WS g
theorem YV(g:Int):bits BinOp.or IntKind.u64 (IntKind.u64.wrap (IntKind.u64.wrap g*2)) 1=WS g:=by
 have b:IntKind.u64.wrap (IntKind.u64.wrap g*2)=(g*2)%18446744073709551616:=by simp only[iW];omega
 rw[b];have a:0<=(g*2)%18446744073709551616:=aa;rw[u64_or _ _ a aa aa aa];have c:((g*2)%18446744073709551616).toNat%2 ^ 1=0:=aa;rw[show(1:Int).toNat=1 from rfl,nat_join 1 _ _ c aa];unfold WS;omega
theorem Au(g:Int)(w:World) :
 Calls prog 152 #[g] w fun e w'=>e=.returned (.int .u64 (WS g))/\w=w':=by
 go_enter func152,ntmps152
 go_wp2
 go_ret
 exact⟨kR (YV g),rfl⟩
theorem Oc(x g:Int)(w:World) :
 Calls prog 180 #[.int .u64 x,g] w fun e w'=>e=.returned (Dm x g)/\w=w':=by
 by_cases h:x=0
 ·subst h;go_enter func180,ntmps180;go_wp2;go_ret;exact⟨cr (by simp[Dm]),rfl⟩
 ·have a:(x==0)=false:=by simpa using h
  clear h;go_enter func180,ntmps180;go_wp2_with(go_at_call 152;go_fit (Au _ _);rintro e w' ⟨rfl,rfl⟩)
  go_ret;exact⟨cr (by simp[Dm,a]),rfl⟩
end Go.Proofs.YtjcjjiieblineaaGreat
