/- Walks and plain facts. No condition. -/
import Derived.Test.YtpfbfhfcbdbglaaGreatPa
namespace Go.Proofs.YtpfbfhfcbdbglaaGreat
open Go.RowKit Go.Proofs.Tryz Mo
set_option maxHeartbeats 8000000
set_option maxRecDepth 100000
set_option linter.all false
variable {w w' a w1 w2:World}{n g base m c i b B base' j size top:Nat}{α:Type}{e t:TypeId}{v vl vg vc a0 a1 vK vg' v' a2 a3 a4 u:Value}{zs C L:List Int}{k:IntKind}{A:Option Addr}{xs:List Value}{S S':Nat->Prop}{P:Program}{o:Oper}{Q:Exit->Act->World->Prop}{p:Addr}{ops:Array Oper}{K:Act->World->Prop}{rest:List Oper}{ys args:Array Value}{kp:Bool}{d E:Prop}{row:Option Nat}{fr:Nat × Nat}{cp:Int}{f:α->List Value}{cs l:List α}{z x y:α}
theorem ae{p:Prop}(h:p):Hid p:=h
theorem av{a b:Prop}(g:a)(h:b):Hid a/\Hid b:=⟨g,h⟩
theorem aS{a b c:Prop}(g:a)(h:b)(i:c):Hid a/\Hid b/\Hid c:=⟨g,h,i⟩
theorem bh{a b c:Prop}(g:a)(h:b)(i:c)(j:d):Hid a/\Hid b/\Hid c/\Hid d:=⟨g,h,i,j⟩
theorem bQ{a b c e:Prop}(g:a)(h:b)(i:c)(j:d)(k:e):Hid a/\Hid b/\Hid c/\Hid d/\Hid e:=⟨g,h,i,j,k⟩
theorem cS{a b c e f:Prop}(g:a)(h:b)(i:c)(j:d)(k:e)(l:f):Hid a/\Hid b/\Hid c/\Hid d/\Hid e/\Hid f:=⟨g,h,i,j,k,l⟩
theorem jO{a b:Int}(h:a=b):Ending.returned (.int k a)=.returned (.int k b):=by rw[h]
theorem bK{a b:Bool}(h:a=b):Ending.returned (.bool a)=.returned (.bool b):=by rw[h]
theorem bc{a:Addr}(h:w.cell? a=some v):a.block<w.heap.size:=by
 rcases Nat.lt_or_ge a.block w with b|b
 .exact b
 .simp[World.cell?,Array.getElem?_eq_none b]at h
theorem add_zero(a:Addr):a.add 0=a:=rfl
def iP(w h:World):Prop:=∃q,h=w.drewN q
theorem iP.refl(w:World):iP w w:=⟨0,rfl⟩
theorem iP.trans{b c:World}(h:iP a b)(k:iP b c):iP a c:=by obtain⟨q,rfl⟩:=h;obtain⟨r,rfl⟩:=k;exact⟨_,World.drewN_drewN _ _ _⟩
theorem iP.more(h:iP a w)(n:Nat):iP a (w.drewN n):=h.trans ⟨n,rfl⟩
theorem iP.one(h:iP a w):iP a w.drew:=h.trans ⟨1,rfl⟩
theorem iP.cell(h:iP w w')(a:Addr):w'.cell? a=w.cell? a:=by obtain⟨q,rfl⟩:=h;rfl
theorem iP.below(h:iP w w')(B:Nat):Below B w w':=by obtain⟨q,rfl⟩:=h;exact bZ (Below.refl _ _) _
theorem iP.quiet{f:FuncId}(h:Calls P f args (w.drewN n) λe w'=>e=.returned v/\iP (w.drewN n) w'):Calls P f args (w.drewN n) λe w'=>e=.returned v/\∃m,w'=w.drewN m:=h.mono λ_ _ ⟨he,_,hm⟩=>⟨he,_,hm.trans (World.drewN_drewN _ _ _)⟩
theorem sw{f:FuncId}(h:Calls P f args (w.drewN n) λe w'=>e=.returned v/\w.drewN n=w'):Calls P f args (w.drewN n) λe w'=>e=.returned v/\∃m,w'=w.drewN m:=h.mono λ_ _ ⟨he,hm⟩=>⟨he,_,hm.symm⟩
theorem ah{b c:World}(h:Below a a b)(k:Below b b c):Below a a c:=h.trans (k.mono h.size)
theorem aj(h:Below a a w)(o:Obj):Below a a (w.alloc o):=h.alloc h.size o
theorem ai(a:World):Below a a a:=Below.refl _ _
theorem iP.ah(h:iP w w'):Below w w w':=h.below _
theorem tG(a:Addr)(i j:Nat):(a.add i).add j=a.add (i+j):=by unfold Addr.add;by_cases b:i=0<;>by_cases c:j=0<;>simp[b,c,Nat.add_assoc]
theorem lU(b o k:Nat):(⟨b,o,none⟩:Addr).add k=⟨b,o+k,none⟩:=by unfold Addr.add;split<;>simp_all
theorem ltW(h:Below n a w)(r:g<a.heap.size):g<w.heap.size:=bW r h.size
theorem add_lit(a:Addr)(n:Nat)(h:n≠0):a.add n=⟨a.block,a.off+n,none⟩:=by unfold Addr.add;rw[au h]
def Rd(w:World)(A:Option Addr)(xs:List Value):Prop:=∀j u,xs[j]?=some u->∃a,A=some a/\w.cell? (a.add j)=some u
def bD(w:World)(k:IntKind)(A:Option Addr)(r:List Int):Prop:=Rd w A (r.map (Value.int k))
theorem Rd.nil(w:World)(A:Option Addr):Rd w A []:=λi z h=>by simp at h
theorem bD.nil(w:World)(k:IntKind)(A:Option Addr):bD w k A []:=Rd.nil w A
theorem Rd.below(h:Rd w A xs)(r:Below w w w'):Rd w' A xs:=by intro i z d;obtain⟨b,c,a⟩:=h i z d;exact⟨b,c,(r.cell (bc a)).trans a⟩
theorem bD.below(h:bD w k A zs)(r:Below w w w'):bD w' k A zs:=Rd.below h r
theorem Rd.alloc(h:Rd w A xs)(o:Obj):Rd (w.alloc o) A xs:=h.below ((Below.refl _ _).alloc (aR _) o)
theorem bD.alloc(h:bD w k A zs)(o:Obj):bD (w.alloc o) k A zs:=Rd.alloc h o
theorem Rd.drew(h:Rd w A xs)(r:iP w w'):Rd w' A xs:=h.below (r.below _)
theorem bD.drew(h:bD w k A zs)(r:iP w w'):bD w' k A zs:=Rd.drew h r
theorem bD.tail{q:Addr}{z:Int}(h:bD w k (some q) (z::zs)):bD w k (some ⟨q.block,q.off+1,none⟩) zs:=by
 intro j u d;obtain⟨b,a,c⟩:=h (1+j) u (by rw[Nat.add_comm];exact d);injection a with a
 subst a;refine⟨_,rfl,?_⟩;rw[<-add_lit q 1 af,tG];exact c
theorem bD.at_(h:bD w k A zs)(D:i<zs.length):∃a z,A=some a/\zs[i]?=some z/\w.cell? (a.add i)=some (.int k z):=by obtain⟨a,b,c⟩:=h i (.int k zs[i]) (by simp[D]);exact⟨a,zs[i],b,cq D,c⟩
theorem Rd.grown(h:Rd w A xs)(r:w.grownBy w' row)(D:∀a,A=some a->xs≠[]->some a.block≠row):Rd w' A xs:=by
 intro i z d;obtain⟨a,c,e⟩:=h i z d;have b:xs≠[]:=by rintro rfl;simp at d
 refine⟨a,c,r.cell e ?_⟩;have:=D a c b;have f:(a.add i).block=a.block:=by unfold Addr.add;split<;>rfl
 rw[f];exact this
theorem Rd.one(w:World)(v:Value)(e:TypeId):Rd (w.alloc (.cells #[v] e)) (some ⟨w,0,none⟩) [v]:=λj u a=>⟨_,rfl,cell_one_new w v e j u a⟩
theorem Rd.lit(w:World)(vs:List Value)(e:TypeId):Rd (w.alloc (.cells vs.toArray e)) (some ⟨w,0,none⟩) vs:=by
 intro j u b;refine⟨_,rfl,?_⟩;have a:((⟨w,0,none⟩:Addr).add j)=⟨w,j,none⟩:=by unfold Addr.add;split<;>simp_all
 rw[a];rw[cell_of_row _ w j vs.toArray e (0,0) (heap_alloc_new w _)];simpa using b
theorem Rd.Dm(w:World)(q:List Value)(e:TypeId)(h:g=w.heap.size):Rd (w.alloc (.cells q.toArray e)) (some ⟨g,0,none⟩) q:=h▸Rd.lit w q e
def ag(w:World)(g:Nat)(t:TypeId)(cs:Array Value):Prop:=w.heap[g]?=some (.cells cs t (0,0))
section
variable{cs:Array Value}
theorem ag.lt(h:ag w g t cs):g<w.heap.size:=by
 rcases Nat.lt_or_ge g w with a|a
 .exact a
 .unfold ag at h;rw[Array.getElem?_eq_none a]at h;cases h
theorem ag.cell(h:ag w g t cs)(i:Nat):w.cell? ⟨g,i,none⟩=cs[i]?:=cell_of_row w g i cs t (0,0) h
theorem ag.free(h:ag w g t cs)(i:Nat):w.frozen? ⟨g,i,none⟩=false:=by unfold ag at h;simp[World.frozen?,h]
theorem ag.aF(h:ag w g t cs):(∀i,w.cell? ⟨g,i,none⟩=cs[i]?)/\(∀i,w.frozen? ⟨g,i,none⟩=false)/\g<w.heap.size:=⟨h.cell,h.free,h.lt⟩
theorem ag.new(w:World)(t:TypeId)(cs:Array Value):ag (w.alloc (.cells cs t)) w t cs:=heap_alloc_new w _
theorem ag.newAt(w:World)(t:TypeId)(cs:Array Value)(h:g=w.heap.size):ag (w.alloc (.cells cs t)) g t cs:=h▸ag.new w t cs
theorem ag.drewN(h:ag w g t cs)(n:Nat):ag (w.drewN n) g t cs:=h
theorem ag.alloc(h:ag w g t cs)(o:Obj):ag (w.alloc o) g t cs:=(Below.heap_alloc w o g h.lt).trans h
theorem ag.bp(h:ag w g t cs)(i:Nat)(u:Value):ag (w.setCell ⟨g,i,none⟩ u) g t (cs.setIfInBounds i u):=by unfold ag at h ⊢;simp[World.setCell,Array.getElem?_modify,h]
theorem ag.b9(h:ag w g t cs)(r:g≠p.block)(u:Value):ag (w.setCell p u) g t cs:=(dE w p u g r).trans h
theorem ag.below(h:ag w g t cs)(r:Below B w w')(D:g<B):ag w' g t cs:=(r.block g D).trans h
theorem ag.ah(h:ag w g t cs)(r:Below w w w'):ag w' g t cs:=h.below r h.lt
theorem ag.drew(h:ag w g t cs)(r:iP w w'):ag w' g t cs:=by obtain⟨q,rfl⟩:=r;exact h
theorem ag.grown(h:ag w g t cs)(r:w.grownBy w' row)(D:some g≠row):ag w' g t cs:=(r.block g h.lt D).trans h
end
def Dn(w:World)(g:Nat)(t:TypeId)(k:IntKind)(h:List Int):Prop:=ag w g t (h.map (Value.int k)).toArray
theorem Dn.cell(h:Dn w g t k zs){z:Int}(r:zs[i]?=some z):w.cell? ⟨g,i,none⟩=some (.int k z):=by rw[ag.cell h i];simp[r]
theorem Dn.bp(h:Dn w g t k zs)(i:Nat)(z:Int):Dn (w.setCell ⟨g,i,none⟩ (.int k z)) g t k (zs.set i z):=by have:=ag.bp h i (.int k z);unfold Dn;rw[List.map_set];simpa using this
theorem Dn.rd(h:Dn w g t k zs):bD w k (some ⟨g,0,none⟩) zs:=by
 intro j u b;refine⟨_,rfl,?_⟩;have a:((⟨g,0,none⟩:Addr).add j)=⟨g,j,none⟩:=by unfold Addr.add;split<;>simp_all
 rw[a,ag.cell h j];simpa using b
theorem jG(q:∀c,(f c).length=m)(h:List α):(h.flatMap f).length=h.length*m:=by
 induction h with
 |nil=>simp
 |cons c l a=>simp[q,a,Nat.add_mul,Nat.add_comm]
theorem tH(q:∀c,(f c).length=m):∀(cs:List α) (i:Nat) (c:α) (j:Nat),cs[i]?=some c->j<m->(cs.flatMap f)[i*m+j]?=(f c)[j]?:=by
 intro cs;induction cs with
 |nil=>intro i c j h;simp at h
 |cons x l b =>
  intro i c j h a;rcases i with _|i
  .simp at h;subst h;simp only[List.flatMap_cons,Nat.zero_mul,Nat.zero_add];rw[List.getElem?_append_left (by rw[q];exact a)]
  .simp only[List.getElem?_cons_succ]at h;simp only[List.flatMap_cons];rw[List.getElem?_append_right (by rw[q,Nat.add_mul];omega),q];rw[show(i+1)*m+j-m=i*m+j by rw[Nat.add_mul];omega];exact b i c j h a
def cN(w:World)(f:α->List Value)(A:Option Addr)(cs:List α):Prop:=Rd w A (cs.flatMap f)
theorem cN.nil(w:World)(f:α->List Value)(A:Option Addr):cN w f A []:=Rd.nil w A
theorem cN.below(h:cN w f A cs)(r:Below w w w'):cN w' f A cs:=Rd.below h r
theorem cN.drew(h:cN w f A cs)(r:iP w w'):cN w' f A cs:=Rd.drew h r
theorem cN.alloc(h:cN w f A cs)(o:Obj):cN (w.alloc o) f A cs:=Rd.alloc h o
theorem cN.at_(D:∀c,(f c).length=m)(G:0<m)(h:cN w f A cs)(F:i<cs.length) :
 ∃a c,A=some a/\cs[i]?=some c/\∀(j:Nat) (u:Value),(f c)[j]?=some u->w.cell? ((a.add (i*m)).add j)=some u:=by
 have k:=cq F
 have d:∀(j:Nat) (u:Value),(f cs[i])[j]?=some u->∃a,A=some a/\w.cell? ((a.add (i*m)).add j)=some u:=by
  intro j u g;have o:j<m:=by rw[<-D cs[i]];exact(List.getElem?_eq_some_iff.1 g).1
  obtain⟨a,e,b⟩:=h (i*m+j) u (by rw[tH D cs i cs[i] j k o];exact g);exact⟨a,e,by rw[tG];exact b⟩
 obtain⟨a,e,_⟩:=d 0 ((f cs[i])[0]'(by rw[D];exact G)) (cq _)
 refine⟨a,cs[i],e,k,λj u g=>?_⟩
 obtain⟨l,b,n⟩:=d j u g
 rw[e]at b
 injection b with b
 subst b
 exact n
theorem Rd.BG(h:w.ownsRow base e size v n xs):∃A c,v=.slice A n c/\Rd w A xs:=by
 rcases h.2 with⟨rfl,rfl⟩|⟨g,a,b,rfl,f⟩
 .have:xs=[]:=List.eq_nil_of_length_eq_zero (by simpa using h.1);subst this;exact⟨_,_,rfl,Rd.nil _ _⟩
 .exact⟨_,_,rfl,λj u d=>⟨_,rfl,h.cells (g:=g) rfl j u d⟩⟩
theorem bD.BG(h:w.ownsRow base e 1 v n (zs.map (Value.int k))):∃A c,v=.slice A zs.length c/\bD w k A zs:=by
 obtain⟨A,c,rfl,a⟩:=Rd.BG h;have:n=zs.length:=by have:=h.1;simpa using this.symm
 subst this;exact⟨A,c,rfl,a⟩
section
variable(w:World)
theorem wQ(base:Nat)(t r e:TypeId)(i:TypeInfo)(size:Nat)(q:P.underlying t=some (.slice e))(h:P.info? e=some i)(v:Value)(n:Nat)(s:List Value)(hown:w.ownsRow base e size v n s)(c:Nat):(Builtin.append_ #[t,t] r #[v,.slice none 0 c]).run P w=.ok v w:=by
 rcases hown.2 with⟨rfl,rfl⟩|⟨g,b,d,rfl,_,_,a,_⟩
 .simp[Builtin.append_,run_underlying q,sizeOf,typeInfo,h,Builtin.lenOf,Builtin.firstCells]
 .simp[Builtin.append_,run_underlying q,sizeOf,typeInfo,h,Builtin.lenOf,Builtin.firstCells,a,storeCells]
theorem SR(base:Nat)(t G e:TypeId)(i:TypeInfo)(z:Value)(size bytes:Nat)(M:P.underlying t=some (.slice e))(H:P.info? e=some i)(O:i.zero=some z)(hsize:i.size=size)(D:i.bytes=bytes)(F:z.cells.size=size)(q:0<size)(v:Value)(n:Nat)(r:List Value)(hown:w.ownsRow base e size v n r)(A:Option Addr)(m c:Nat)(news:List Value)(I:news.length=m*size)(J:Rd w A news)(N:∀u∈news,u.oneCell'=true)(s:n+m<=maxLen)(hbytes:(n+m)*bytes<=140737488355328)(hbase:base<=w.heap.size) :
 ∃v' w',(Builtin.append_ #[t,t] G #[v,.slice A m c]).run P w=.ok v' w'/\w'.ownsRow base e size v' (n+m) (r++news)/\w.grownBy w' v.ownBlock /\
  (v'.ownBlock=v.ownBlock\/v'.ownBlock=some w.heap.size):=by
 rcases A with _|a
 .have y:news=[]:=by
   rcases news with _|⟨u,l⟩
   .rfl
   .obtain⟨a,h,_⟩:=J 0 u rfl;cases h
  subst y
  have x:m=0:=by
   rcases Nat.eq_zero_or_pos m with b|b
   .exact b
   .have:=Nat.mul_pos b q;simp at I;omega
  subst x
  exact⟨v,w,wQ w base t G e i size M H v n r hown c,by simpa using hown,World.grownBy.refl w _,.inl rfl⟩
 .have d:∀j u,news[j]?=some u->w.cell? (a.add j)=some u:=by
   intro j u B;obtain⟨f,h,p⟩:=J j u B;injection h with h
   subst h;exact p
  obtain⟨v',w',hrun,g,k,_,o⟩:=run_append_own_at (P:=P) w base t G e i z size bytes M H O hsize D F q v n r hown a m c news I d N s hbytes hbase
  exact⟨v',w',hrun,g,k,o⟩
theorem FQ{a:Act}(s x:Operand)(t:TypeId)(M:o.op=.call {callee:=.builtin .append,args:=#[s,x],argTypes:=#[t,t]})(base:Nat)(e:TypeId)(i:TypeInfo)(z:Value)(size bytes:Nat)(R:P.underlying t=some (.slice e))(I:P.info? e=some i)(U:i.zero=some z)(hsize:i.size=size)(r:i.bytes=bytes)(F:z.cells.size=size)(D:0<size)(v:Value)(n:Nat)(G:List Value)(O:a.eval s=v)(hown:w.ownsRow base e size v n G)(A:Option Addr)(m c:Nat)(news:List Value)(T:a.eval x=.slice A m c)(J:news.length=m*size)(N:Rd w A news)(H:∀u∈news,u.oneCell'=true)(q:n+m<=maxLen)(hbytes:(n+m)*bytes<=140737488355328)(hbase:base<=w.heap.size)(h:∀v' w',w'.ownsRow base e size v' (n+m) (G++news)->w.grownBy w' v.ownBlock->(v'.ownBlock=v.ownBlock\/v'.ownBlock=some w.heap.size)->K (a.put o.dst v') w'):o.wp P a w K Q:=by
 obtain⟨v',w',hrun,b,d,f⟩:=SR (P:=P) w base t o.type e i z size bytes R I U hsize r F D v n G hown A m c news J N H q hbytes hbase
 unfold Oper.wp execOp
 simp only[M,resolve,invoke,builtin,Sem.run_bind,Sem.run_pure,Result.andThen_ok,List.map_toArray,List.map_cons,List.map_nil,O,T,hrun]
 exact h v' w' b d f
theorem FR{a:Act}(D:o.guard=none)(s x:Operand)(t:TypeId)(N:o.op=.call {callee:=.builtin .append,args:=#[s,x],argTypes:=#[t,t]})(base:Nat)(e:TypeId)(i:TypeInfo)(z:Value)(size bytes:Nat)(T:P.underlying t=some (.slice e))(J:P.info? e=some i)(V:i.zero=some z)(hsize:i.size=size)(r:i.bytes=bytes)(G:z.cells.size=size)(F:0<size)(v:Value)(n:Nat)(H:List Value)(R:a.eval s=v)(hown:w.ownsRow base e size v n H)(A:Option Addr)(m c:Nat)(news:List Value)(U:a.eval x=.slice A m c)(M:news.length=m*size)(O:Rd w A news)(I:∀u∈news,u.oneCell'=true)(q:n+m<=maxLen)(hbytes:(n+m)*bytes<=140737488355328)(hbase:base<=w.heap.size)(h:∀v' w',w'.ownsRow base e size v' (n+m) (H++news)->w.grownBy w' v.ownBlock->(v'.ownBlock=v.ownBlock\/v'.ownBlock=some w.heap.size)->wpList P ops Q rest (a.put o.dst v') w'):wpList P ops Q (o::rest) a w:=wpList_plain D λ_ g=>FQ w s x t N base e i z size bytes T J V hsize r G F v n H R hown A m c news U M O I q hbytes hbase λv' w' b d f=>g _ _ (h v' w' b d f)
end
theorem Ax(h:Below B a w)(hown:w.ownsRow base e size v n xs)(s:w.grownBy w' v.ownBlock)(q:B<=w.heap.size)(r:B<=base):Below B a w':=h.grown s q λk b=>bm r (hown.lt k b).1
theorem NW(k:IntKind)(h:List Int):∀u∈h.map (Value.int k),u.oneCell'=true:=by intro u a;obtain⟨z,_,rfl⟩:=List.mem_map.1 a;rfl
def aK(w:World)(base:Nat)(e:TypeId)(k:IntKind)(v:Value)(h:List Int):Prop:=w.ownsRow base e 1 v h.length (h.map (Value.int k))
theorem aK.nil(w:World)(base:Nat)(e:TypeId)(k:IntKind):aK w base e k (.slice none 0 0) []:=World.ownsRow_nil _ _ _ _
theorem aK.empty(w:World)(e:TypeId)(k:IntKind):aK (w.alloc (.cells #[] e)) w e k (.slice (some ⟨w,0,none⟩) 0 0) []:=World.ownsRow_lit w #[] 0 (aR _) (aZ _) rfl
theorem aK.lit(w:World)(e:TypeId)(k:IntKind)(h:List Int)(r:h.length<=9223372036854775807):aK (w.alloc (.cells (h.map (Value.int k)).toArray e)) w e k (.slice (some ⟨w,0,none⟩) h.length h.length) h:=World.ownsRow_lit w (h.map (Value.int k)).toArray h.length (aR _) (by unfold maxLen;omega) aA
theorem aK.rd(h:aK w base e k v zs):∃A c,v=.slice A zs.length c/\bD w k A zs:=bD.BG h
theorem aK.alloc(h:aK w base e k v zs)(o:Obj):aK (w.alloc o) base e k v zs:=World.ownsRow.alloc h o
theorem aK.aW(hown:aK w base e k v zs)(h:Below B a w)(D:w.grownBy w' v.ownBlock)(r:B<=w.heap.size)(s:B<=base):Below B a w':=Ax h hown D r s
theorem aK.form(h:aK w base e k v zs)(hne:zs≠[]):∃g c,v=.slice (some ⟨g,0,none⟩) zs.length c/\base<=g/\g<w.heap.size:=by exact aaf
theorem aK.cell(h:aK w base e k (.slice (some ⟨g,0,none⟩) n c) zs){z:Int}(r:zs[i]?=some z):w.cell? ⟨g,i,none⟩=some (.int k z):=by
 have b:n=zs.length:=by exact XT
 subst b;have a:=(List.getElem?_eq_some_iff.1 r).1;rw[World.ownsRow.cellAt h i (by simpa using a)];simp[r]
theorem aK.frozen(h:aK w base e k (.slice (some ⟨g,0,none⟩) n c) zs)(i:Nat):w.frozen? ⟨g,i,none⟩=false:=by
 have a:n=zs.length:=by exact XT
 subst a;exact World.ownsRow.frozenAt h i
theorem aK.stored(h:aK w base e k (.slice (some ⟨g,0,none⟩) n c) zs)(i:Nat)(z:Int) :
 aK (w.setCell ⟨g,i,none⟩ (.int k z)) base e k (.slice (some ⟨g,0,none⟩) n c) (zs.set i z):=by
 have a:n=zs.length:=by exact XT
 subst a
 have:=(World.ownsRow.stored h i (.int k z)).1
 unfold aK
 rw[dN,List.map_set]
 exact this
def aag(k:IntKind)(q:List Int)(w:World)(e:Ending)(h:World):Prop:=(∃B d,e=.returned (.slice B q.length d)/\bD h k B q)/\Below w w h
theorem aK.ret(h:aK w base e k v zs)(q:Below a a w):aag k zs a (.returned v) w:=by obtain⟨B,d,rfl,b⟩:=h.rd;exact⟨⟨B,d,rfl,b⟩,q⟩
def aH(w:World)(base:Nat)(e:TypeId)(m:Nat)(f:α->List Value)(v:Value)(cs:List α):Prop:=w.ownsRow base e m v cs.length (cs.flatMap f)
theorem aH.nil(w:World)(base:Nat)(e:TypeId)(m:Nat)(f:α->List Value):aH w base e m f (.slice none 0 0) []:=⟨aA,.inl ⟨rfl,rfl⟩⟩
theorem aH.rd(h:aH w base e m f v cs):∃A c,v=.slice A cs.length c/\cN w f A cs:=Rd.BG h
theorem aH.alloc(h:aH w base e m f v cs)(o:Obj):aH (w.alloc o) base e m f v cs:=World.ownsRow.alloc h o
theorem aH.aW(hown:aH w base e m f v cs)(h:Below B a w)(D:w.grownBy w' v.ownBlock)(r:B<=w.heap.size)(s:B<=base):Below B a w':=Ax h hown D r s
theorem aH.ah(h:aH w base e m f v cs)(hb:Below w w w'):aH w' base e m f v cs:=by exact VC
theorem aH.b9(h:aH w base e m f v cs){D:Array Value}(hg:ag w g t D)(hne:e≠t)(i:Nat)(u:Value):aH (w.setCell ⟨g,i,none⟩ u) base e m f v cs:=by exact aah
theorem aH.other(h:aH w base e m f v cs){s:Array Value}(q:w.heap[g]?=some (.cells s t fr))(r:e≠t):some g≠v.ownBlock:=by
 rcases h.2 with⟨rfl,_⟩|⟨b,cap,a,rfl,_,d,_⟩
 .simp[Value.ownBlock]
 .intro c;have:g=b:=by simpa[Value.ownBlock]using c
  subst this;rw[d]at q;injection q with q
  injection q with _ ht
  exact r ht
def SU(k:IntKind)(h:List Int)(w:World)(e:Ending)(q:World):Prop:=(∃B d,e=.returned (.slice B h.length d)/\h.length<=d/\bD q k B h)/\Below w w q
theorem SU.bL{e:Ending}(h:SU k zs w e w'):aag k zs w e w':=by obtain⟨⟨B,d,a,_,b⟩,c⟩:=h;exact⟨⟨B,d,a,b⟩,c⟩
theorem aK.acy(h:aK w base e k v zs)(q:Below a a w):SU k zs a (.returned v) w:=by
 rcases h.2 with⟨rfl,d⟩|⟨g,cap,b,rfl,_,_,f,_⟩
 .have:zs=[]:=List.eq_nil_of_length_eq_zero d;subst this;exact⟨⟨_,_,rfl,aR _,bD.nil _ _ _⟩,q⟩
 .obtain⟨A,c,j,i⟩:=h.rd;injection j with h1 _ h2
  subst h1;subst h2;exact⟨⟨_,_,rfl,f,i⟩,q⟩
section
variable(w:World)
theorem bR{a:Act}(D:o.guard=none)(s x:Operand)(t:TypeId)(N:o.op=.call {callee:=.builtin .append,args:=#[s,x],argTypes:=#[t,t]})(base:Nat)(e:TypeId)(m bytes:Nat)(z:Value)(f:α->List Value)(H:∀c,(f c).length=m)(r:∀c,∀u∈f c,u.oneCell'=true)(T:P.underlying t=some (.slice e))(I:(P.info? e).map (λi=>(i.zero,i.size,i.bytes))=some (some z,m,bytes))(F:z.cells.size=m)(M:0<m)(v:Value)(q:List α)(R:a.eval s=v)(hown:aH w base e m f v q)(A:Option Addr)(n c:Nat)(news:List α)(U:a.eval x=.slice A n c)(J:news.length=n)(O:cN w f A news)(hbytes:(q.length+news.length)*bytes<=140737488355328)(G:q.length+news.length<=9223372036854775807)(hbase:base<=w.heap.size)(h:∀v' w',aH w' base e m f v' (q++news)->w.grownBy w' v.ownBlock->(v'.ownBlock=v.ownBlock\/v'.ownBlock=some w.heap.size)->wpList P ops Q rest (a.put o.dst v') w'):wpList P ops Q (o::rest) a w:=by
 obtain⟨i,y,d,g,j⟩:=info_parts I
 subst J
 refine FR w D s x t N base e i z m bytes T y d g j F M v q.length _ R hown A news.length c (news.flatMap f) U (jG H _) O (λu p=>?_) (by unfold maxLen;omega) hbytes hbase
  λv' w' r k l=>h v' w' ?_ k l
 .obtain⟨x,_,b⟩:=List.mem_flatMap.1 p;exact r x u b
 .unfold aH;rw[fM,List.flatMap_append];exact r
theorem I9{a:Act}(s x:Operand)(t:TypeId)(F:o.op=.call {callee:=.builtin .append,args:=#[s,x],argTypes:=#[t,t]})(base:Nat)(e:TypeId)(k:IntKind)(I:P.underlying t=some (.slice e))(r:(P.info? e).map (λi=>(i.zero,i.size,i.bytes))=some (some (.int k 0),1,8))(v:Value)(q:List Int)(H:a.eval s=v)(hown:aK w base e k v q)(A:Option Addr)(m c:Nat)(news:List Int)(J:a.eval x=.slice A m c)(D:news.length=m)(G:bD w k A news)(hbytes:(q.length+news.length)*8<=140737488355328)(hbase:base<=w.heap.size)(h:∀v' w',aK w' base e k v' (q++news)->w.grownBy w' v.ownBlock->(v'.ownBlock=v.ownBlock\/v'.ownBlock=some w.heap.size)->K (a.put o.dst v') w'):o.wp P a w K Q:=by
 obtain⟨i,n,b,d,f⟩:=info_parts r
 subst D
 refine FQ w s x t F base e i (.int k 0) 1 8 I n b d f rfl af v q.length _ H hown A news.length c (news.map (Value.int k)) J aA G (NW _ _) (by unfold maxLen;omega) hbytes hbase
  λv' w' g j l=>h v' w' ?_ j l
 unfold aK
 rw[fM,List.map_append]
 exact g
theorem bS{a:Act}(D:o.guard=none)(s x:Operand)(t:TypeId)(H:o.op=.call {callee:=.builtin .append,args:=#[s,x],argTypes:=#[t,t]})(base:Nat)(e:TypeId)(k:IntKind)(M:P.underlying t=some (.slice e))(F:(P.info? e).map (λi=>(i.zero,i.size,i.bytes))=some (some (.int k 0),1,8))(v:Value)(r:List Int)(J:a.eval s=v)(hown:aK w base e k v r)(A:Option Addr)(m c:Nat)(news:List Int)(O:a.eval x=.slice A m c)(G:news.length=m)(I:bD w k A news)(hbytes:(r.length+news.length)*8<=140737488355328)(hbase:base<=w.heap.size)(h:∀v' w',aK w' base e k v' (r++news)->w.grownBy w' v.ownBlock->(v'.ownBlock=v.ownBlock\/v'.ownBlock=some w.heap.size)->wpList P ops Q rest (a.put o.dst v') w'):wpList P ops Q (o::rest) a w:=wpList_plain D λ_ g=>I9 w s x t H base e k M F v r J hown A m c news O G I hbytes hbase λv' w' b d f=>g _ _ (h v' w' b d f)
theorem BH{a:Act}(J:o.guard=none)(l c:Operand)(t:TypeId)(h:o.op=Op.makeSlice t l c)(base:Nat)(e:TypeId)(k:IntKind)(O:P.underlying t=some (.slice e))(M:(P.info? e).map (λi=>(i.zero,i.size,i.bytes))=some (some (.int k 0),1,8))(r q:IntKind)(L C:Int)(n:Nat)(N:a.eval l=.int r L)(I:a.eval c=.int q C)(H:L=(n:Int))(F:C=(n:Int))(s:8*n<=281474976710656)(D:base<=w.heap.size)(G:∀w',aK w' base e k (.slice (some ⟨w,0,none⟩) n n) (List.replicate n 0)->Below w w w'->wpList P ops Q rest (a.put o.dst (.slice (some ⟨w,0,none⟩) n n)) w') :
 wpList P ops Q (o::rest) a w:=by
 obtain⟨i,u,b,d,f⟩:=info_parts M
 refine wpList_make_full w J l c t h base e i (.int k 0) 1 O u b d r q L C n N I H F (by rw[f];exact s) (by unfold maxLen;omega) D λw' g m=>G w' ?_ ((Below.refl _ _).grown m (aR _) (λk p=>by cases p))
 unfold aK
 have j:(madeCells (Value.int k 0).cells (n*1)).toList=List.replicate n (Value.int k 0):=by rw[Nat.mul_one];exact toList_madeCells_one _ _
 rw[j]at g
 rw[jI,List.map_replicate]
 exact g
theorem bD.VD(k:IntKind)(z:Int)(e:TypeId)(h:g=w.heap.size):bD (w.alloc (.cells #[.int k z] e)) k (some ⟨g,0,none⟩) [z]:=by subst h;exact Rd.one w _ e
theorem bD.one(k:IntKind)(z:Int)(e:TypeId):bD (w.alloc (.cells #[.int k z] e)) k (some ⟨w,0,none⟩) [z]:=Rd.one w _ e
end
theorem bT{r:List α}{k:Nat}(h:r[k]?=some z):k<r.length:=(List.getElem?_eq_some_iff.1 h).1
theorem eM{q:List α}{k:Nat}(h:q[k]?=some z):q.take (k+1)=q.take k++[z]:=by rw[List.take_succ_eq_append_getElem (bT h)];congr 2;exact(List.getElem?_eq_some_iff.1 h).2
theorem tI{q:List α}{k:Nat}(r:n=q.length)(h:n<=k):q.take k=q:=List.take_of_length_le aa
theorem xK{q r:List α}{k:Nat}(D:n=q.length)(F:n=r.length)(s:¬k<n)(h:∀(j:Nat) (x y:α),j<k->q[j]?=some x->r[j]?=some y->x=y):q=r:=by apply List.ext_getElem aa;intro i a b;exact h i _ _ aa (cq a) (cq b)
theorem BI{q:List α}{k:Nat}(h:q[k]?=some z):q.drop k=z::q.drop (k+1):=by rw[List.drop_eq_getElem_cons (bT h),(List.getElem?_eq_some_iff.1 h).2]
theorem bD.take(h:bD w k A zs)(m:Nat):bD w k A (zs.take m):=by
 intro j u a;refine h j u ?_;rw[List.map_take]at a;have b:j<m:=by have:=(List.getElem?_eq_some_iff.1 a).1;rw[fK]at this;omega
 rwa [List.getElem?_take_of_lt b]at a
theorem aK.cap(h:aK w base e k (.slice A n c) zs):n=zs.length/\n<=c:=by exact VE
theorem bD.po(h:bD w k none zs):zs=[]:=by
 rcases zs with _|⟨z,l⟩
 .rfl
 .obtain⟨_,h,_⟩:=h 0 _ rfl;cases h
theorem bD.drop{r:Addr}(h:bD w k (some r) zs)(m:Nat):bD w k (some (r.add m)) (zs.drop m):=by
 intro j u b;obtain⟨c,a,d⟩:=h (m+j) u (by rw[List.map_drop,List.getElem?_drop]at b;exact b);injection a with a
 subst a;exact⟨_,rfl,by rw[tG];exact d⟩
theorem aK.ah(h:aK w base e k v zs)(hb:Below w w w'):aK w' base e k v zs:=by exact VC
theorem aK.bL(h:aK w base e k v zs)(D:base'<=base):aK w base' e k v zs:=by exact VF
theorem aK.shape(h:aK w base e k v zs):∃A c,v=.slice A zs.length c:=by obtain⟨a,b,d,_⟩:=h.rd;exact⟨a,b,d⟩
theorem mE{a:Act}(r:o.guard=none)(s x:Operand)(t:TypeId)(G:o.op=.call {callee:=.builtin .append,args:=#[s,x],argTypes:=#[t,t]})(base:Nat)(e:TypeId)(k:IntKind)(J:P.underlying t=some (.slice e))(D:(P.info? e).map (λi=>(i.zero,i.size,i.bytes))=some (some (.int k 0),1,8))(v:Value)(q:List Int)(I:a.eval s=v)(hown:aK w base e k v q)(A:Option Addr)(m c:Nat)(news:List Int)(M:a.eval x=.slice A m c)(F:news.length=m)(H:bD w k A news)(hbytes:(q.length+news.length)*8<=140737488355328)(hbase:base<=w.heap.size)(h:∀v' w',aK w' base e k v' (q++news)->w.grownBy w' v.ownBlock->(v'.ownBlock=v.ownBlock\/v'.ownBlock=some w.heap.size)->K (a.put o.dst v') w') :
 if Region.wanted o (yielded ops a.tmps)=true then Oper.wp P o a w K Q else E:=by
 have b:Region.wanted o (yielded ops a.tmps)=true:=by simp[Region.wanted,r]
 rw[ay b]
 exact I9 w s x t G base e k J D v q I hown A m c news M F H hbytes hbase h
theorem gf{a:Act}(F:o.guard=none)(s x:Operand)(t:TypeId)(O:o.op=.call {callee:=.builtin .append,args:=#[s,x],argTypes:=#[t,t]})(base:Nat)(e:TypeId)(m bytes:Nat)(z:Value)(f:α->List Value)(I:∀c,(f c).length=m)(D:∀c,∀u∈f c,u.oneCell'=true)(U:P.underlying t=some (.slice e))(J:(P.info? e).map (λi=>(i.zero,i.size,i.bytes))=some (some z,m,bytes))(G:z.cells.size=m)(N:0<m)(v:Value)(r:List α)(T:a.eval s=v)(hown:aH w base e m f v r)(A:Option Addr)(n c:Nat)(news:List α)(V:a.eval x=.slice A n c)(M:news.length=n)(R:cN w f A news)(hbytes:(r.length+news.length)*bytes<=140737488355328)(H:r.length+news.length<=9223372036854775807)(hbase:base<=w.heap.size)(h:∀v' w',aH w' base e m f v' (r++news)->w.grownBy w' v.ownBlock->(v'.ownBlock=v.ownBlock\/v'.ownBlock=some w.heap.size)->K (a.put o.dst v') w') :
 if Region.wanted o (yielded ops a.tmps)=true then Oper.wp P o a w K Q else E:=by
 have q:Region.wanted o (yielded ops a.tmps)=true:=by simp[Region.wanted,F]
 rw[ay q]
 obtain⟨i,y,d,g,j⟩:=info_parts J
 subst M
 refine FQ w s x t O base e i z m bytes U y d g j G N v r.length _ T hown A news.length c (news.flatMap f) V (jG I _) R (λu p=>?_) (by unfold maxLen;omega) hbytes hbase
  λv' w' D k l=>h v' w' ?_ k l
 .obtain⟨x,_,b⟩:=List.mem_flatMap.1 p;exact D x u b
 .unfold aH;rw[fM,List.flatMap_append];exact D
def nO(A:Option Addr)(c m:Nat):Option Addr:=if c=m then A else A.map (·.add m)
theorem bD.from(h:bD w k A zs)(q:zs.length<=c)(m:Nat):bD w k (nO A c m) (zs.drop m):=by
 unfold nO;by_cases a:c=m
 .rw[List.drop_of_length_le aa];exact bD.nil _ _ _
 .rw[au a];rcases A with _|b
  .rw[h.po];simp;exact bD.nil _ _ _
  .exact h.drop m
theorem xL:(prog.info? 3).map (λi=>(i.zero,i.size,i.bytes))=some (some (.int .i64 0),1,8):=by kernel_rfl
theorem gZ:(prog.info? 69).map (λi=>(i.zero,i.size,i.bytes))=some (some (.int .u64 0),1,8):=by kernel_rfl
structure Acc where
 (th ki ad wa ol nw:Int)
 ok:Bool
def FT(a:Acc):List Value:=[.int .i64 a.th,.int .i64 a.ki,.int .i64 a.ad,.int .u64 a.wa,.int .u64 a.ol,.int .u64 a.nw,.bool a.ok]
theorem NX(a:Acc):(FT a).length=7:=rfl
theorem NY(a:Acc):∀u∈FT a,u.oneCell'=true:=by intro u b;simp[FT]at b;rcases b with rfl|rfl|rfl|rfl|rfl|rfl|rfl<;>rfl
theorem NZ:(prog.info? 236).map (λi=>(i.zero,i.size,i.bytes))=some (some (.agg #[.int .i64 0,.int .i64 0,.int .i64 0,.int .u64 0,.int .u64 0,.int .u64 0,.bool false]),7,56):=by kernel_rfl
theorem bu(h:w.ownsRow base e m v n xs)(hg:ag w g t ys)(hne:e≠t)(i:Nat)(u:Value) :
 (w.setCell ⟨g,i,none⟩ u).ownsRow base e m v n xs:=by
 exact aah
theorem dH(h:w.ownsRow base e m v n xs)(q:∀g,v.ownBlock=some g->g≠p.block)(u:Value):(w.setCell p u).ownsRow base e m v n xs:=by
 obtain⟨i,c⟩:=h;refine⟨i,?_⟩;rcases c with c|⟨d,a,b,f,j,k,r⟩
 .exact Or.inl c
 .refine Or.inr ⟨d,a,b,f,j,?_,r⟩;rw[dE _ _ _ _ (q d (by rw[f];rfl))];exact k
theorem kX(h:w.ownsRow base e m v n xs)(q:w.grownBy w' row)(s:∀g,v.ownBlock=some g->some g≠row):w'.ownsRow base e m v n xs:=by
 obtain⟨j,d⟩:=h;refine⟨j,?_⟩;rcases d with d|⟨c,a,b,i,k,f,r⟩
 .exact Or.inl d
 .refine Or.inr ⟨c,a,b,i,k,?_,r⟩;rw[q.block c (ag.lt f) (s c (by rw[i];rfl))];exact f
theorem cL{s:TypeId}{G H:Nat}{r:List Value}(h:w.ownsRow base e m v n xs)(F:w.ownsRow base' s G v' H r)(q:e≠s)(D:v.ownBlock=some g):some g≠v'.ownBlock:=by
 rcases h.2 with⟨rfl,_⟩|⟨j,c,f,rfl,_,b,_⟩
 .simp[Value.ownBlock]at D
 .have o:j=g:=by simpa[Value.ownBlock]using D
  subst o;rcases F.2 with⟨rfl,_⟩|⟨k,d,i,rfl,_,a,_⟩
  .simp[Value.ownBlock]
  .intro l;have:j=k:=by simpa[Value.ownBlock]using l
   subst this;rw[b]at a;injection a with a
   injection a with _ ht
   exact q ht
theorem bk(h:w.ownsRow base e m v n xs)(r:v.ownBlock=some g):base<=g/\g<w.heap.size:=by
 rcases h.2 with⟨rfl,_⟩|⟨d,b,c,rfl,f,a,_⟩
 .simp[Value.ownBlock]at r
 .have i:d=g:=by simpa[Value.ownBlock]using r
  subst i;exact⟨f,ag.lt a⟩
theorem ba(h:w.ownsRow base e m v n xs)(r:ag w g t ys)(s:e≠t):some g≠v.ownBlock:=by
 rcases h.2 with⟨rfl,_⟩|⟨d,b,c,rfl,j,a,_⟩
 .simp[Value.ownBlock]
 .intro f;have i:g=d:=by simpa[Value.ownBlock]using f
  subst i;unfold ag at r;rw[a]at r;injection r with r
  injection r with _ ht
  exact s ht
theorem ag.FU{q:Array Value}(h:w.heap[g]?=some (.cells q t fr)):g<w.heap.size:=by
 rcases Nat.lt_or_ge g w with a|a
 .exact a
 .rw[Array.getElem?_eq_none a]at h;cases h
theorem eh(h:w.ownsRow base e m v n xs)(r:w.heap[g]?=some (.cells ys t fr))(s:e≠t):some g≠v.ownBlock:=by
 rcases h.2 with⟨rfl,_⟩|⟨d,b,c,rfl,j,a,_⟩
 .simp[Value.ownBlock]
 .intro f;have i:g=d:=by simpa[Value.ownBlock]using f
  subst i;rw[a]at r;injection r with r
  injection r with _ ht
  exact s ht
structure eD (w:World) (base g:Nat) (vl vg vc:Value) (L:List Int) (G:List Acc) (C:List Int) (kp:Bool):Prop where
 blk:ag w g 175 #[vl,vg,vc,.bool kp]
 words:aK w base 69 .u64 vl L
 log:aH w base 236 7 FT vg G
 counts:aK w base 3 .i64 vc C
 low:base<=g
def Ja(w:World)(base g:Nat)(L:List Int)(G:List Acc)(C:List Int)(h:Bool):Prop:=∃vl vg vc,eD w base g vl vg vc L G C h
section
variable{G:List Acc}
theorem eD.ah(h:eD w base g vl vg vc L G C kp)(r:Below w w w'):eD w' base g vl vg vc L G C kp:=⟨h.blk.ah r,h.words.ah r,h.log.ah r,aK.ah h.counts r,h.low⟩
theorem Ja.ah(h:Ja w base g L G C kp)(r:Below w w w'):Ja w' base g L G C kp:=by obtain⟨c,b,a,h⟩:=h;exact⟨c,b,a,h.ah r⟩
theorem eD.alloc(h:eD w base g vl vg vc L G C kp)(o:Obj):eD (w.alloc o) base g vl vg vc L G C kp:=h.ah ((ai w).alloc (aR _) o)
theorem eD.drew(h:eD w base g vl vg vc L G C kp)(q:Nat):eD (w.drewN q) base g vl vg vc L G C kp:=h.ah (bZ (ai w) q)
def Rest(w s:World)(g:Nat)(r q h:Value):Prop :=∀b,b<w.heap.size->b≠g->r.ownBlock≠some b->q.ownBlock≠some b->h.ownBlock≠some b->s.heap[b]?=w.heap[b]?
theorem Rest.refl(w:World)(g:Nat)(D r h:Value):Rest w w g D r h:=λ_ _ _ _ _ _=>rfl
theorem Rest.blk{xs:Array Value}(h:Rest w w' g vl vg vc)(r:ag w b t xs)(D:b≠g)(F:vl.ownBlock≠some b)(H:vg.ownBlock≠some b)(I:vc.ownBlock≠some b):ag w' b t xs:=(h b r.lt D F H I).trans r
def FV(g h:Nat)(s r q:Value):Prop:=g<h/\(∀b,s.ownBlock=some b->b<h)/\(∀b,r.ownBlock=some b->b<h)/\∀b,q.ownBlock=some b->b<h
theorem eD.nY(h:eD w base g vl vg vc L G C kp):FV g w vl vg vc:=⟨h.blk.lt,λ_ a=>(bk h.words a).2,λ_ a=>(bk h.log a).2,λ_ a=>(bk h.counts a).2⟩
theorem eD.free{r:Array Value}(H:Rest w w' g vl vg vc)(F:FV g top vl vg vc)(D:ag w b t r)(I:top<=b):ag w' b t r:=by obtain⟨e,a,c,d⟩:=F;exact H.blk D aa (λh=>by have:=a b h;omega) (λh=>by have:=c b h;omega) (λh=>by have:=d b h;omega)
theorem eD.b9(h:eD w base g vl vg vc L G C kp)(r:FV g top vl vg vc)(D:top<=p.block)(u:Value):eD (w.setCell p u) base g vl vg vc L G C kp:=by obtain⟨f,c,d,e⟩:=r;exact⟨h.blk.b9 aa u,dH h.words (λb a=>by have:=c b a;omega) u,dH h.log (λb a=>by have:=d b a;omega) u,dH h.counts (λb a=>by have:=e b a;omega) u,h.low⟩
theorem eD.store{q s D:Nat}(h:eD w base g (.slice (some ⟨q,0,none⟩) D s) vg vc L G C kp)(i:Nat)(z:Int) :
 eD (w.setCell ⟨q,i,none⟩ (.int .u64 z)) base g (.slice (some ⟨q,0,none⟩) D s) vg vc (L.set i z) G C kp:=by
 have b:(Value.slice (some ⟨q,0,none⟩) D s).ownBlock=some q:=rfl
 refine⟨h.blk.b9 ?_ _,h.words.stored i z,dH h.log (λd c a=>?_) _,dH h.counts (λd c a=>?_) _,h.low⟩
 .intro a;exact ba h.words h.blk af (by rw[b];exact congrArg some a)
 .exact cL h.log h.words af c (by rw[b];exact congrArg some a)
 .exact cL h.counts h.words af c (by rw[b];exact congrArg some a)
theorem eD.form(h:eD w base g vl vg vc L G C kp)(r:L≠[]):∃a b,vl=.slice (some ⟨a,0,none⟩) L.length b/\base<=a/\a<w.heap.size:=h.words.form r
theorem eD.FW{r:List Int}(h:eD w base g vl vg vc L G C kp)(s:aK w' base 3 .i64 vK r)(q:w.grownBy w' vc.ownBlock):eD (w'.setCell ⟨g,2,none⟩ vK) base g vl vg vK L G r kp:=by have a:ag w' g 175 #[vl,vg,vc,.bool kp]:=h.blk.grown q (ba h.counts h.blk af);have d:aK w' base 69 .u64 vl L:=kX h.words q (λb a=>cL h.words h.counts af a);have c:aH w' base 236 7 FT vg G:=kX h.log q (λb a=>cL h.log h.counts af a);exact⟨ag.bp a 2 vK,bu d a af _ _,bu c a af _ _,bu s a af _ _,h.low⟩
theorem eD.N0{r:List Acc}(h:eD w base g vl vg vc L G C kp)(s:aH w' base 236 7 FT vg' r)(q:w.grownBy w' vg.ownBlock):eD (w'.setCell ⟨g,1,none⟩ vg') base g vl vg' vc L r C kp:=by have a:ag w' g 175 #[vl,vg,vc,.bool kp]:=h.blk.grown q (ba h.log h.blk af);have d:aK w' base 69 .u64 vl L:=kX h.words q (λb a=>cL h.words h.log af a);have c:aK w' base 3 .i64 vc C:=kX h.counts q (λb a=>cL h.counts h.log af a);exact⟨ag.bp a 1 vg',bu d a af _ _,bu s a af _ _,bu c a af _ _,h.low⟩
end
theorem Rest.lx(h:Rest w w1 g vl vg vc)(q:w.heap.size<=p.block)(u:Value):Rest w (w1.setCell p u) g vl vg vc:=λb f a c d e=>by rw[dE _ _ _ _ aa];exact h b f a c d e
theorem Rest.Jb(h:Rest w w1 g vl vg vc)(u:Value):Rest w (w1.setCell ⟨g,i,none⟩ u) g vl vg vc:=λb f a c d e=>by rw[dE _ _ _ _ a];exact h b f a c d e
theorem Rest.Kn(h:Rest w w1 g vl vg vc)(q:vl.ownBlock=some p.block)(u:Value):Rest w (w1.setCell p u) g vl vg vc:=λb f c a d e=>by rw[dE _ _ _ _ (λi=>a (by rw[q,i]))];exact h b f c a d e
theorem Rest.drew(h:Rest w w1 g vl vg vc)(q:Nat):Rest w (w1.drewN q) g vl vg vc:=h
theorem Rest.alloc(h:Rest w w1 g vl vg vc)(r:w.heap.size<=w1.heap.size)(o:Obj):Rest w (w1.alloc o) g vl vg vc:=λb f a c d e=>by rw[Below.heap_alloc _ _ _ aa];exact h b f a c d e
theorem Rest.trans(h:Rest w w1 g vl vg vc)(F:w.heap.size<=w1.heap.size)(k:Rest w1 w2 g vl vg' vK)(D:∀b,vg'.ownBlock=some b->vg.ownBlock=some b\/w.heap.size<=b)(r:∀b,vK.ownBlock=some b->vc.ownBlock=some b\/w.heap.size<=b):Rest w w2 g vl vg vc:=λb i c d e f=>by
 refine(k b aa c d (λa=>?_) (λa=>?_)).trans (h b i c d e f)
 .rcases D b a with h|h
  .exact e h
  .omega
 .rcases r b a with h|h
  .exact f h
  .omega
theorem Rest.grown(h:Rest w w1 g vl vg vc)(F:w.heap.size<=w1.heap.size)(r:w1.grownBy w2 vg'.ownBlock)(D:∀b,vg'.ownBlock=some b->vg.ownBlock=some b\/w.heap.size<=b):Rest w w2 g vl vg vc:=λb f c d a e=>by
 rw[r.block b aa (λi=>?_)]
 .exact h b f c d a e
 .rcases D b i.symm with h|h
  .exact a h
  .omega
def Same(a b:World):Prop:=a=b
theorem Same.to{b:World}(h:Same a b){Q:World->Prop}(q:Q a):Q b:=by unfold Same at h;exact h▸q
def Ko(w:World)(g:Nat)(u0 u1 u2 u3 u4 u5 u6:Value):World:=((((((w.setCell ⟨g,0,none⟩ u0).setCell ⟨g,1,none⟩ u1).setCell ⟨g,2,none⟩ u2).setCell ⟨g,3,none⟩ u3).setCell ⟨g,4,none⟩ u4).setCell ⟨g,5,none⟩ u5).setCell ⟨g,6,none⟩ u6
theorem xM{q r:Value}(h:ag w g t #[a0,a1,a2,a3,a4,q,r])(u0 u1 u2 u3 u4 u5 u6:Value) :
 (w.setCell ⟨g,0,none⟩ u0).cell? ⟨g,0,none⟩=some u0/\((w.setCell ⟨g,0,none⟩ u0).setCell ⟨g,1,none⟩ u1).cell? ⟨g,1,none⟩=some u1 /\
  (((w.setCell ⟨g,0,none⟩ u0).setCell ⟨g,1,none⟩ u1).setCell ⟨g,2,none⟩ u2).cell? ⟨g,2,none⟩=some u2 /\
  ((((w.setCell ⟨g,0,none⟩ u0).setCell ⟨g,1,none⟩ u1).setCell ⟨g,2,none⟩ u2).setCell ⟨g,3,none⟩ u3).cell? ⟨g,3,none⟩=some u3 /\
  (((((w.setCell ⟨g,0,none⟩ u0).setCell ⟨g,1,none⟩ u1).setCell ⟨g,2,none⟩ u2).setCell ⟨g,3,none⟩ u3).setCell ⟨g,4,none⟩ u4).cell? ⟨g,4,none⟩=some u4 /\
  ((((((w.setCell ⟨g,0,none⟩ u0).setCell ⟨g,1,none⟩ u1).setCell ⟨g,2,none⟩ u2).setCell ⟨g,3,none⟩ u3).setCell ⟨g,4,none⟩ u4).setCell ⟨g,5,none⟩ u5).cell? ⟨g,5,none⟩=some u5 /\
  (Ko w g u0 u1 u2 u3 u4 u5 u6).cell? ⟨g,6,none⟩=some u6:=by
 have a:=h.bp 0 u0
 have b:=a.bp 1 u1
 have c:=b.bp 2 u2
 have d:=c.bp 3 u3
 have e:=d.bp 4 u4
 have f:=e.bp 5 u5
 have i:=f.bp 6 u6
 exact⟨by rw[a.cell];simp,by rw[b.cell];simp,by rw[c.cell];simp,by rw[d.cell];simp,by rw[e.cell];simp,by rw[f.cell];simp,by unfold Ko;rw[i.cell];simp⟩
theorem Ay(h:Rest w w1 g vl vg vc)(q:w.heap.size<=b)(u0 u1 u2 u3 u4 u5 u6:Value):Rest w (Ko w1 b u0 u1 u2 u3 u4 u5 u6) g vl vg vc:=((((((h.lx q _).lx q _).lx q _).lx q _).lx q _).lx q _).lx q _
theorem sB(h:Below B w w1)(q:B<=b)(u0 u1 u2 u3 u4 u5 u6:Value):Below B w (Ko w1 b u0 u1 u2 u3 u4 u5 u6):=((((((h.setCell q _).setCell q _).setCell q _).setCell q _).setCell q _).setCell q _).setCell q _
theorem eD.Y{G:List Acc}(h:eD w base g vl vg vc L G C kp)(r:g≠p.block)(D:vl.ownBlock≠some p.block)(F:vg.ownBlock≠some p.block)(H:vc.ownBlock≠some p.block)(u:Value) :
 eD (w.setCell p u) base g vl vg vc L G C kp :=
 ⟨h.blk.b9 r u,dH h.words (λb a c=>D (by rw[a,c])) u,dH h.log (λb a c=>F (by rw[a,c])) u,dH h.counts (λb a c=>H (by rw[a,c])) u,h.low⟩
theorem Az{G:List Acc}(h:eD w base g vl vg vc L G C kp)(q:g≠b)(r:vl.ownBlock≠some b)(s:vg.ownBlock≠some b)(D:vc.ownBlock≠some b)(u0 u1 u2 u3 u4 u5 u6:Value) :
 eD (Ko w b u0 u1 u2 u3 u4 u5 u6) base g vl vg vc L G C kp :=
 ((((((h.Y q r s D _).Y q r s D _).Y q r s D _).Y q r s D _).Y q r s D _).Y q r s D _).Y q r s D _
def ju(C:List Int)(t:Int):List Int :=
 if t<0\/64<=t then C else
  let D:=C++List.replicate (t.toNat+1-C.length) 0
  D.set t.toNat (wrap64 (D.getD t.toNat 0+1))
theorem FX(t:Int)(h:C.length<=64):(ju C t).length<=64:=by
 unfold ju;split
 .exact h
 .simp;omega
def VG(g:Int):Int:=(g*2+1)%18446744073709551616
def Dq(x g:Int):Bool:=x==0 || x==VG g
theorem XU(g:Int):bits BinOp.or IntKind.u64 (IntKind.u64.wrap (IntKind.u64.wrap g*2)) 1=VG g:=by
 have b:IntKind.u64.wrap (IntKind.u64.wrap g*2)=(g*2)%18446744073709551616:=by simp only[cA];omega
 rw[b];have a:0<=(g*2)%18446744073709551616:=aa;rw[u64_or _ _ a aa aa aa];have c:((g*2)%18446744073709551616).toNat%2 ^ 1=0:=aa;rw[show(1:Int).toNat=1 from rfl,nat_join 1 _ _ c aa];unfold VG;omega
theorem AA(g:Int)(w:World) :
 Calls prog 137 #[g] w λe w'=>e=.returned (.int .u64 (VG g))/\w=w':=by
 go_enter func137,ntmps137
 go_wp2
 go_ret
 exact⟨jO (XU g),rfl⟩
theorem N7(x g:Int)(w:World) :
 Calls prog 165 #[.int .u64 x,g] w λe w'=>e=.returned (Dq x g)/\w=w':=by
 by_cases h:x=0
 .subst h;go_enter func165,ntmps165;go_wp2;go_ret;exact⟨bK (by simp[Dq]),rfl⟩
 .have a:(x==0)=false:=by simpa using h
  clear h;go_enter func165,ntmps165;go_wp2_with(go_at_call 137;go_fit (AA _ _);rintro e w' ⟨rfl,rfl⟩)
  go_ret;exact⟨bK (by simp[Dq,a]),rfl⟩
theorem SV(i:Nat)(x y:Int)(h:0<=x)(q:x<18446744073709551616)(D:0<=y)(F:y<18446744073709551616)(r:x.toNat%2 ^ i=0)(s:y.toNat<2 ^ i):bits BinOp.or IntKind.u64 x y=x+y:=by rw[u64_or _ _ h q D F,nat_join i _ _ r s];omega
section
variable(w:World)
theorem uJ(q h:Int):Calls prog 126 #[.agg #[q,h]] w λe w'=>e=.returned (kO ⟨q,h⟩)/\Below w w w':=by
 go_enter func126,ntmps126;go_wp2;all_goals go_ret
 all_goals exact⟨bK (by rw[Bool.eq_iff_iff];simp[kO]<;>omega),aj (ai w) _⟩
theorem ia(q h:Int):Calls prog 97 #[.agg #[q,h]] w λe w'=>e=.returned (.int .u64 (cm ⟨q,h⟩))/\Below w w w':=by
 rcases a:kO ⟨q,h⟩with _|_
 .obtain⟨f,c⟩:=av a (uJ (w.alloc (.cells #[q,h] 68)) q h);rw[a]at c;clear a;go_enter func97,ntmps97;go_wp2_with fail;refine c.mono ?_;rintro e j ⟨rfl,b⟩;have d:=ae (Below.trans (aj (ai w) (.cells #[q,h] 68)) (b.mono aA));clear b;go_wp2;go_ret;exact⟨jO (by unfold cm;rw[f.Y];rfl),d⟩
 .have g:=a;simp only[kO,eI]at g;obtain⟨k,l,m,n⟩:=g;obtain⟨f,c⟩:=av a (uJ (w.alloc (.cells #[q,h] 68)) q h);rw[a]at c;have o:IntKind.u64.wrap h=h:=by simp only[cA];omega
  have r:IntKind.u64.wrap (q+1)=q+1:=by simp only[cA];omega
  have s:IntKind.i64.wrap (q+1)=q+1:=bH _ aa;have t:IntKind.u64.wrap (h*65536)=h*65536:=by simp only[cA];omega
  have u:bits BinOp.or IntKind.u64 (h*65536) (q+1)=h*65536+(q+1):=SV 16 _ _ aa aa aa aa aa aa;clear a;go_enter func97,ntmps97;go_wp2_with fail;refine c.mono ?_;rintro e j ⟨rfl,b⟩;have v:∀i,j.cell? ⟨w,i,none⟩=_:=λi=>b.cell (p:=⟨w,i,none⟩) aA;have d:=ae (Below.trans (aj (ai w) (.cells #[q,h] 68)) (b.mono aA));clear b;go_wp2;go_ret;exact⟨jO (by unfold cm;rw[f.Y];simp;omega),d⟩
theorem aai(x:Int)(h:0<=x)(q:x<18446744073709551616):bits BinOp.and IntKind.u64 x 65535=x%65536:=by rw[u64_and _ _ h q aa aa,show(65535:Int).toNat=2 ^ 16-1 from rfl,Nat.and_two_pow_sub_one_eq_mod];omega
theorem BJ(x:Int)(h0:0<=x)(h1:x<18446744073709551616):bits BinOp.and IntKind.u64 x 4294967295=x%4294967296:=by exact VH
theorem N8{w:World}(h:ag w g t #[a0,a1])(u0 u1:Value):ag ((w.setCell ⟨g,0,none⟩ u0).setCell ⟨g,1,none⟩ u1) g t #[u0,u1]:=(h.bp 0 u0).bp 1 u1
theorem Oa{w:World}(h:Below a a w)(q:a.heap.size<=g)(u0 u1:Value):Below a a ((w.setCell ⟨g,0,none⟩ u0).setCell ⟨g,1,none⟩ u1):=(h.setCell (p:=⟨g,0,none⟩) q _).setCell (p:=⟨g,1,none⟩) q _
theorem Jc{w:World}(q:g=w.heap.size)(h:Below w w w1)(r:ag w1 g 68 #[a0,a1])(u0 u1:Value) :
 ag ((w1.setCell ⟨g,0,none⟩ u0).setCell ⟨g,1,none⟩ u1) g 68 #[u0,u1]/\Below w w ((w1.setCell ⟨g,0,none⟩ u0).setCell ⟨g,1,none⟩ u1) :=
 ⟨N8 r u0 u1,Oa h (by rw[q];exact aR _) u0 u1⟩
theorem AB(x:Int)(h:0<=x)(q:x<18446744073709551616) :
 Calls prog 139 #[.int .u64 x] w λe w'=>e=.returned (.tuple #[.agg #[.int .i64 (jE x).1.ix,.int .i64 (jE x).1.tag],.bool (jE x).2])/\Below w w w':=by
 have j:=aai x h q
 have k:=BJ (x/65536) aa aa
 have l:IntKind.i64.wrap (x%65536)=x%65536:=bH _ aa
 have m:IntKind.i64.wrap (x%65536-1)=x%65536-1:=bH _ aa
 have n:IntKind.i64.wrap (x/65536%4294967296)=x/65536%4294967296:=bH _ aa
 obtain⟨g,b⟩:=aw (cm ⟨x%65536-1,x/65536%4294967296⟩)
 have HR:Hid (jE x=if g≠x\/x=0 then(⟨0,0⟩,false)else(⟨x%65536-1,x/65536%4294967296⟩,true)):=by unfold Hid;rw[b];rfl
 have HWD:=ae (ia ((w.alloc (.cells #[oZ,oZ] 68)).alloc (.cells #[.int .i64 (x%65536-1),.int .i64 (x/65536%4294967296)] 68)) (x%65536-1) (x/65536%4294967296))
 rw[<-b]at HWD
 clear b
 have f:∀a,Below (w.heap.size+1+1) ((w.alloc (.cells #[oZ,oZ] 68)).alloc (.cells #[.int .i64 (x%65536-1),.int .i64 (x/65536%4294967296)] 68)) a ->
  ag a w 68 #[oZ,oZ]/\ag a (w.heap.size+1) 68 #[.int .i64 (x%65536-1),.int .i64 (x/65536%4294967296)]/\Below w w a:=by
  intro a c
  exact⟨((ag.new w _ _).alloc _).below c aa,(ag.newAt (w.alloc (.cells #[oZ,oZ] 68)) _ _ aA).below c aa,(aj (aj (ai w) _) _).trans (c.mono aa)⟩
 have MID:=ae f
 clear f
 by_cases d:g≠x\/x=0
 .have d1:(g !=x || x==0)=true:=by simpa using d
  have HQ:=ae d;clear d;rcases d2:(g !=x)with _|_
  .rw[d2]at d1;have d3:(x==0)=true:=d1;exact aaj
  .exact aaj
 .have d2:(g !=x)=false:=by simp;omega
  have d3:(x==0)=false:=by simp;omega
  have HQ:=ae d;clear d;go_enter func139,ntmps139;go_wp2_with fail;refine HWD.mono ?_;rintro e a ⟨rfl,c⟩;obtain⟨k0,k1,kb⟩:=MID.Y a (c.mono aA);obtain⟨hc0,hf0,hz0⟩:=ag.aF k0;have hc1:=λi=>ag.cell k1 i;go_wp2_with fail;obtain⟨Dr,CT⟩:=Jc rfl kb k0 (.int .i64 (x%65536-1)) (.int .i64 (x/65536%4294967296));generalize((a.setCell ⟨w,0,none⟩ (.int .i64 (x%65536-1))).setCell ⟨w,1,none⟩ (.int .i64 (x/65536%4294967296)))=wf at Dr CT ⊢;have nB:=λi=>ag.cell Dr i;refine bodyPost_ret (v:=.tuple #[.agg #[.int .i64 (x%65536-1),.int .i64 (x/65536%4294967296)],true]) ?_ rfl ?_
  .simp[results,results139,go_sem,nB]
  .rw[HR.Y,au HQ.Y];exact⟨rfl,CT⟩
theorem SX(H:Int)(h:World):(Builtin.min_ #[3,3] 3 #[.int .i64 H,.int .i64 4294967295]).run prog h=.ok (.int .i64 (min H 4294967295)) h:=by
 have e:(if(4294967295:Int)<H then(4294967295:Int)else H)=min H 4294967295:=by split<;>omega
 show Result.ok (Value.int .i64 (if(4294967295:Int)<H then 4294967295 else H)) h=_;rw[e]
theorem Kp(r q last:Int)(H:q<=4294967295) :
 Calls prog 217 #[.agg #[r,q],last] w λe w'=>e=.returned (.tuple #[.agg #[.int .i64 (gW ⟨r,q⟩ last).1.ix,.int .i64 (gW ⟨r,q⟩ last).1.tag],.bool (gW ⟨r,q⟩ last).2])/\Below w w w':=by
 have y:=SX last
 obtain⟨m,C⟩:=aw (min last 4294967295)
 rw[<-C]at y
 have u:Hid (gW ⟨r,q⟩ last=if q<0\/m<=q then(⟨0,0⟩,false)else if kO ⟨r,q+1⟩=true then(⟨r,q+1⟩,true)else(⟨0,0⟩,false)):=by unfold Hid;rw[C];rfl
 clear C
 by_cases a:q<0
 .have d1:decide (q<0)=true:=cg a;have j:=ae a;clear a;go_enter func217,ntmps217;go_wp2;refine bodyPost_ret (v:=.tuple #[.agg #[oZ,oZ],false]) ?_ rfl ?_
  .simp[results,results217,go_sem]
  .rw[u.Y,ay (.inl j.Y)];exact⟨rfl,aj (aj (aj (ai w) _) _) _⟩
 have J:decide (q<0)=false:=bF a
 have o:¬(q<0):=a
 clear a
 by_cases a:m<=q
 .have d1:decide (m<=q)=true:=cg a;have j:=ae a;clear a;go_enter func217,ntmps217;go_wp2;refine bodyPost_ret (v:=.tuple #[.agg #[oZ,oZ],false]) ?_ rfl ?_
  .simp[results,results217,go_sem]
  .rw[u.Y,ay (.inr j.Y)];exact⟨rfl,aj (aj (aj (ai w) _) _) _⟩
 have K:decide (m<=q)=false:=bF a
 have p:¬(m<=q):=a
 clear a
 have j:Hid (¬(q<0\/m<=q)):=λh=>h.elim o p
 have I:IntKind.i64.wrap (q+1)=q+1:=bH _ aa
 have d:=ae (uJ ((((w.alloc (.cells #[r,q] 219)).alloc (.cells #[oZ,oZ] 68)).alloc (.cells #[r,.int .i64 (q+1)] 68))) r (q+1))
 have t:∀c,Below (w.heap.size+1+1+1) ((((w.alloc (.cells #[r,q] 219)).alloc (.cells #[oZ,oZ] 68)).alloc (.cells #[r,.int .i64 (q+1)] 68))) c ->
  ag c (w.heap.size+1) 68 #[oZ,oZ]/\ag c (w.heap.size+1+1) 68 #[r,.int .i64 (q+1)]/\Below w w c:=by
  intro c f
  exact⟨((ag.newAt (w.alloc (.cells #[r,q] 219)) _ _ aA).alloc _).below f aa,(ag.newAt ((w.alloc (.cells #[r,q] 219)).alloc (.cells #[oZ,oZ] 68)) _ _ aA).below f aa,(aj (aj (aj (ai w) _) _) _).trans (f.mono aa)⟩
 have n:=ae t
 clear t o p
 rcases b:kO ⟨r,q+1⟩with _|_
 .rw[b]at d;have x:Hid ((if kO ⟨r,q+1⟩=true then((⟨r,q+1⟩:Rf),true)else(⟨0,0⟩,false))=(⟨0,0⟩,false)):=by rw[b];rfl
  clear b;go_enter func217,ntmps217;go_wp2_with fail;refine d.mono ?_;rintro e c ⟨rfl,f⟩;obtain⟨s,E,F⟩:=n.Y c (f.mono aA);obtain⟨z,B,D⟩:=ag.aF s;have A:=λi=>ag.cell E i;go_wp2_with fail;have l:=N8 s oZ oZ;have k:=Oa F (g:=w.heap.size+1) aa oZ oZ;generalize((c.setCell ⟨w.heap.size+1,0,none⟩ oZ).setCell ⟨w.heap.size+1,1,none⟩ oZ)=wf at l k ⊢;have G:=λi=>ag.cell l i;refine bodyPost_ret (v:=.tuple #[.agg #[oZ,oZ],false]) ?_ rfl ?_
  .simp[results,results217,go_sem,G]
  .rw[u.Y,au j.Y,x.Y];exact⟨rfl,k⟩
 .rw[b]at d;have x:Hid ((if kO ⟨r,q+1⟩=true then((⟨r,q+1⟩:Rf),true)else(⟨0,0⟩,false))=(⟨r,q+1⟩,true)):=by rw[b];rfl
  clear b;go_enter func217,ntmps217;go_wp2_with fail;refine d.mono ?_;rintro e c ⟨rfl,f⟩;obtain⟨s,E,F⟩:=n.Y c (f.mono aA);obtain⟨z,B,D⟩:=ag.aF s;have A:=λi=>ag.cell E i;go_wp2_with fail;have l:=N8 s r (.int .i64 (q+1));have k:=Oa F (g:=w.heap.size+1) aa r (.int .i64 (q+1));generalize((c.setCell ⟨w.heap.size+1,0,none⟩ r).setCell ⟨w.heap.size+1,1,none⟩ (.int .i64 (q+1)))=wf at l k ⊢;have G:=λi=>ag.cell l i;refine bodyPost_ret (v:=.tuple #[.agg #[r,.int .i64 (q+1)],true]) ?_ rfl ?_
  .simp[results,results217,go_sem,G]
  .rw[u.Y,au j.Y,x.Y];exact⟨rfl,k⟩
theorem Kq(q h:Int):Calls prog 224 #[.agg #[q,h]] w λe w'=>e=.returned (.agg #[q,h])/\Below w w w':=by
 go_enter func224,ntmps224;go_wp2;refine bodyPost_ret (v:=.agg #[q,h]) ?_ rfl ?_
 .simp[results,results224,go_sem]
 .exact⟨rfl,aj (aj (ai w) _) _⟩
theorem Ds(p g:Int):Calls prog 266 #[p,g] w λe w'=>e=.returned (jM p g)/\w=w':=by
 go_enter func266,ntmps266;go_wp2;all_goals go_ret
 all_goals refine⟨jO ?_,rfl⟩
 all_goals unfold jM
 all_goals first
  |(rw[ay aa];done)
  |(rw[au aa];done)
  |(rw[au aa];rw[bH (g*8) aa];exact bH _ aa)
theorem xO(h:Int):Calls prog 170 #[h] w λe w'=>e=.returned (.tuple #[.int .i64 (cJ h).1,.int .i64 (cJ h).2.1,.bool (cJ h).2.2])/\w=w':=by
 by_cases hq:h<8\/32768<=h
 .have e:cJ h=(0,0,false):=by unfold cJ;rw[ay hq]
  rw[e];clear e;by_cases h1:h<8
  .have d1:decide (h<8)=true:=cg h1;exact aak
  .have d1:decide (h<8)=false:=bF h1;have d2:decide (32768<=h)=true:=cg aa;exact aak
 .have e:cJ h=(h%8,h/8,true):=by unfold cJ;rw[au hq]
  rw[e];have a:h.tmod 8=h%8:=Int.tmod_eq_emod_of_nonneg aa;have b:IntKind.i64.wrap (h.tdiv 8)=h/8:=by rw[Int.tdiv_eq_ediv_of_nonneg aa];exact bH _ aa
  have d1:decide (h<8)=false:=bF aa;have d2:decide (32768<=h)=false:=bF aa;clear e;go_enter func170,ntmps170;go_wp2;refine bodyPost_ret (v:=.tuple #[.int .i64 (h%8),.int .i64 (h/8),true]) ?_ rfl ⟨rfl,rfl⟩;simp[results,results170,go_sem]
end
theorem Dt(n:Int)(h:-9223372036854775808<=n/\n<=9223372036854775807):wrap64 n=n:=by unfold wrap64;omega
theorem Jd(x:Int)(h:0<=x)(q:x<18446744073709551616):bits BinOp.and IntKind.u64 x 15=x%16:=by rw[u64_and _ _ h q aa aa,show(15:Int).toNat=15 from rfl,nat_mask4];omega
theorem SY(x:Int)(h:0<=x)(q:x<18446744073709551616):bits BinOp.and IntKind.u64 x 1=x%2:=by rw[u64_and _ _ h q aa aa,show(1:Int).toNat=1 from rfl,nat_mask1];omega
theorem BK(x:Int)(h:0<=x)(q:x<18446744073709551616):bits BinOp.and IntKind.u64 x 255=x%256:=by rw[u64_and _ _ h q aa aa,show(255:Int).toNat=255 from rfl,nat_mask8];omega
theorem xP(x:Int)(h:0<=x)(q:x<18446744073709551616):bits BinOp.and IntKind.u64 x 65535=x%65536:=by rw[u64_and _ _ h q aa aa,show(65535:Int).toNat=65535 from rfl,nat_mask16];omega
theorem aal(x:Int)(h0:0<=x)(h1:x<18446744073709551616):bits BinOp.and IntKind.u64 x 4294967295=x%4294967296:=by exact VH
theorem Ob(i:Nat)(x y:Int)(h:0<=x)(q:x<18446744073709551616)(r:0<=y)(F:y<18446744073709551616)(s:x%2 ^ i=0)(D:y<2 ^ i):bits BinOp.or IntKind.u64 x y=x+y:=by obtain⟨a,rfl⟩:=Int.eq_ofNat_of_zero_le h;obtain⟨b,rfl⟩:=Int.eq_ofNat_of_zero_le r;rw[u64_or _ _ h q r F,fR,fR,nat_join i a b (by exact_mod_cast s) (by exact_mod_cast D)];simp
theorem mY(i:Nat)(x y:Int)(h:0<=x)(q:x<18446744073709551616)(r:0<=y)(F:y<18446744073709551616)(s:y%2 ^ i=0)(D:x<2 ^ i):bits BinOp.or IntKind.u64 x y=x+y:=by obtain⟨a,rfl⟩:=Int.eq_ofNat_of_zero_le h;obtain⟨b,rfl⟩:=Int.eq_ofNat_of_zero_le r;rw[u64_or _ _ h q r F,fR,fR,Nat.or_comm,nat_join i b a (by exact_mod_cast s) (by exact_mod_cast D)];simp;omega
def nP(s c o v:Int):Bool:=decide (0<=s/\s<=1048575/\0<=c/\c<=15/\0<=o/\o<=255/\0<=v/\v<=4294967295)
def zW(s c o v:Int):Int:=if nP s c o v=true then s*17592186044416+c*1099511627776+o*4294967296+v else 0
def iv(n m:Int):Bool:=decide (0<=n/\n<m)
theorem XV(s c o v:Int)(h:0<=s)(q:s<=1048575)(r:0<=c)(D:c<=15)(F:0<=o)(G:o<=255)(H:0<=v)(I:v<=4294967295) :
 bits BinOp.or IntKind.u64 (bits BinOp.or IntKind.u64 (bits BinOp.or IntKind.u64 (s*17592186044416) (c*1099511627776)) (o*4294967296)) v=zW s c o v:=by
 rw[Ob 44 (s*17592186044416) (c*1099511627776) aa aa aa aa aa aa,
  Ob 40 _ (o*4294967296) aa aa aa aa aa aa,
  Ob 32 _ v aa aa aa aa aa aa]
 unfold zW
 rw[ay (by simp[nP];omega)]
section
variable(w:World)
theorem uK(n:Int):Calls prog 113 #[n,.int .i64 32] w λe w'=>e=.returned (iv n 4294967296)/\w=w':=by exact SZ
theorem BL(n:Int):Calls prog 113 #[n,.int .i64 16] w λe w'=>e=.returned (iv n 65536)/\w=w':=by exact SZ
theorem aam(n:Int):Calls prog 113 #[n,.int .i64 8] w λe w'=>e=.returned (iv n 256)/\w=w':=by exact SZ
theorem aan(n:Int):Calls prog 113 #[n,.int .i64 4] w λe w'=>e=.returned (iv n 16)/\w=w':=by exact SZ
variable(s c o v:Int)
theorem xQ:Calls prog 197 #[.agg #[s,c,o,v]] w λe w'=>e=.returned (nP s c o v)/\Below w w w':=by
 go_enter func197,ntmps197;go_wp2_with fail;go_fit (uK _ _);rintro e w' ⟨rfl,rfl⟩;rcases a:iv v 4294967296 with _|_
 .go_wp2;go_ret;exact⟨bK (by symm;simp[iv]at a;simp[nP];omega),(Below.refl _ _).alloc (aR _) _⟩
 go_wp2_with fail;go_fit (aam _ _);rintro e w' ⟨rfl,rfl⟩;rcases b:iv o 256 with _|_
 .go_wp2;go_ret;exact⟨bK (by symm;simp[iv]at b;simp[nP];omega),(Below.refl _ _).alloc (aR _) _⟩
 go_wp2_with fail;go_fit (aan _ _);rintro e w' ⟨rfl,rfl⟩;rcases d:iv c 16 with _|_
 .go_wp2;go_ret;exact⟨bK (by symm;simp[iv]at d;simp[nP];omega),(Below.refl _ _).alloc (aR _) _⟩
 go_wp2;all_goals go_ret
 all_goals exact⟨bK (by rw[Bool.eq_iff_iff];simp[iv]at a b d;simp[nP]<;>omega),(Below.refl _ _).alloc (aR _) _⟩
theorem uL:Calls prog 81 #[.agg #[s,c,o,v]] w λe w'=>e=.returned (nP s c o v)/\Below w w w':=by
 go_enter func81,ntmps81;go_wp2;all_goals go_ret
 all_goals exact⟨bK (by rw[Bool.eq_iff_iff];simp[nP]<;>omega),(Below.refl _ _).alloc (aR _) _⟩
theorem sD:Calls prog 160 #[.agg #[s,c,o,v]] w λe w'=>e=.returned (.int .u64 (zW s c o v))/\Below w w w':=by
 rcases b:nP s c o v with _|_
 .have HG:=ae b;clear b;go_enter func160,ntmps160;go_wp2_with fail;go_fit (xQ _ s c o v);exact VI
 .have d:=b;simp only[nP,eI]at d;obtain⟨f,g,h,j,k,l,m,n⟩:=d;have HG:=ae b;clear b;go_enter func160,ntmps160;go_wp2_with fail;go_fit (xQ _ s c o v);rw[HG.Y];rintro e q ⟨rfl,a⟩;have r:∀i,q.cell? ⟨w,i,none⟩=_:=λi=>a.cell (p:=⟨w,i,none⟩) aA;go_wp2;go_ret;exact⟨jO (XV s c o v f g h j k l m n),((Below.refl _ _).alloc (aR _) _).trans (a.mono aA)⟩
theorem Du:Calls prog 50 #[.agg #[s,c,o,v]] w λe w'=>e=.returned (.int .u64 (zW s c o v))/\Below w w w':=by
 rcases b:nP s c o v with _|_
 .have HG:=ae b;clear b;go_enter func50,ntmps50;go_wp2_with fail;go_fit (uL _ s c o v);exact VI
 .have d:=b;simp only[nP,eI]at d;obtain⟨g,h,j,k,l,m,n,q⟩:=d;have HG:=ae b;clear b;go_enter func50,ntmps50;go_wp2_with fail;go_fit (uL _ s c o v);rw[HG.Y];rintro e f ⟨rfl,a⟩;have r:∀i,f.cell? ⟨w,i,none⟩=_:=λi=>a.cell (p:=⟨w,i,none⟩) aA;go_wp2;go_ret;exact⟨jO (by unfold zW;rw[ay HG.Y];simp;omega),((Below.refl _ _).alloc (aR _) _).trans (a.mono aA)⟩
def rS(x:Int):Int:=x/17592186044416
def rC(x:Int):Int:=x/1099511627776%16
def rO(x:Int):Int:=x/4294967296%256
def rV(x:Int):Int:=x%4294967296
theorem aao{a b c d h q r D:Int}(F:a=h)(G:b=q)(H:c=r)(I:d=D):Ending.returned (.agg #[a,b,c,d])=.returned (.agg #[h,q,r,D]):=by rw[F,G,H,I]
theorem lJ(x:Int)(q:0<=x)(h:x<18446744073709551616) :
 Calls prog 158 #[.int .u64 x] w λe w'=>e=.returned (.agg #[(rS x),(rC x),(rO x),(rV x)])/\Below w w w':=by
 have a:=ae h;clear h
 go_enter func158,ntmps158
 go_wp2
 refine bodyPost_ret (v:=.agg #[(wrap64 (x/17592186044416)),(wrap64 (bits BinOp.and IntKind.u64 (x/1099511627776) 15)),(wrap64 (bits BinOp.and IntKind.u64 (x/4294967296) 255)),(wrap64 (bits BinOp.and IntKind.u64 x 4294967295))]) (by simp[results,results158,go_sem]) rfl ⟨?_,(Below.refl _ _).alloc (aR _) _⟩
 have h:=a.Y
 rw[Jd _ aa aa,BK _ aa aa,aal _ aa aa]
 refine aao ?_ ?_ ?_ ?_<;>simp only[rS,rC,rO,rV]<;>exact Dt _ aa
theorem Kr(x:Int)(q:0<=x)(h:x<18446744073709551616) :
 Calls prog 62 #[.int .u64 x] w λe w'=>e=.returned (.agg #[(rS x),(rC x),(rO x),(rV x)])/\Below w w w':=by
 have a:=ae h;clear h
 go_enter func62,ntmps62
 go_wp2
 refine bodyPost_ret (v:=?_) ?_ rfl ?_
 rotate_left
 .simp[results,results62,go_sem];rfl
 .refine⟨?_,((((((Below.refl _ _).alloc (aR _) _).alloc aA _))))⟩;have h:=a.Y;have b:IntKind.u64.wrap (x.tdiv 4294967296)=x/4294967296:=by rw[Int.tdiv_eq_ediv_of_nonneg q,cA];omega
  have c:IntKind.u64.wrap ((x/4294967296).tdiv 256)=x/1099511627776:=by rw[Int.tdiv_eq_ediv_of_nonneg aa,cA];omega
  have d:IntKind.u64.wrap ((x/1099511627776).tdiv 16)=x/17592186044416:=by rw[Int.tdiv_eq_ediv_of_nonneg aa,cA];omega
  have f:(x/1099511627776).tmod 16=x/1099511627776%16:=Int.tmod_eq_emod_of_nonneg aa;have g:(x/4294967296).tmod 256=x/4294967296%256:=Int.tmod_eq_emod_of_nonneg aa;rw[b,c,d,f,g];refine aao ?_ ?_ ?_ ?_<;>simp only[rS,rC,rO,rV]<;>first|rfl|exact Dt _ aa
def Oc(o:Int):Bool:=o !=14
def AD(s o:Int):Int:=if Oc o=true then wrap64 (wrap64 (2*s)+1)else wrap64 (2*s)
theorem AE(s c o v:Int):Calls prog 204 #[.agg #[s,c,o,v]] w λe w'=>e=.returned (Oc o)/\Below w w w':=by go_enter func204,ntmps204;go_wp2;go_ret;exact⟨rfl,(Below.refl _ _).alloc (aR _) _⟩
theorem Dv(s c o v:Int):Calls prog 191 #[.agg #[s,c,o,v]] w λe w'=>e=.returned (AD s o)/\Below w w w':=by
 rcases d:Oc o with _|_
 all_goals
  have b:=ae d;clear d;go_enter func191,ntmps191;go_wp2_with fail;go_fit (AE _ s c o v);rw[b.Y];rintro e f ⟨rfl,a⟩;have g:∀i,f.cell? ⟨w,i,none⟩=_:=λi=>a.cell (p:=⟨w,i,none⟩) aA;go_wp2;go_ret;exact⟨jO (by unfold AD;rw[b.Y];simp),((Below.refl _ _).alloc (aR _) _).trans (a.mono aA)⟩
def BM(x y:Int):Bool:=decide (AD (rS x) (rO x)<AD (rS y) (rO y))
theorem xR(x y:Int)(h:0<=x)(q:x<18446744073709551616)(D:0<=y)(r:y<18446744073709551616) :
 Calls prog 153 #[.int .u64 x,.int .u64 y] w λe w'=>e=.returned (BM x y)/\Below w w w':=by
 obtain⟨f,g⟩:=av q r;clear q r
 go_enter func153,ntmps153
 go_wp2_with fail
 go_fit (lJ _ x h f);rintro e i ⟨rfl,a⟩
 go_wp2_with fail
 go_fit (Dv _ _ _ _ _);rintro e j ⟨rfl,b⟩
 go_wp2_with fail
 go_fit (lJ _ y D g);rintro e k ⟨rfl,c⟩
 go_wp2_with fail
 go_fit (Dv _ _ _ _ _);rintro e l ⟨rfl,d⟩
 go_wp2
 go_ret
 exact⟨rfl,ah (ah (ah a b) c) d⟩
end
def bj(c:Int×Int×Int):List Value:=[c.1,c.2.1,c.2.2]
theorem cM(c:Int×Int×Int):(bj c).length=3:=rfl
theorem mF(c:Int×Int×Int):∀u∈bj c,u.oneCell'=true:=by intro u a;simp[bj]at a;rcases a with rfl|rfl|rfl<;>rfl
theorem Je{q:List (Int×Int×Int)}(h:cN w bj A q)(r:i<q.length) :
 ∃a d b v,A=some a/\q[i]?=some (d,b,v)/\w.cell? (a.add (i*3))=some d /\
  w.cell? ⟨(a.add (i*3)).block,(a.add (i*3)).off+1,none⟩=some b/\w.cell? ⟨(a.add (i*3)).block,(a.add (i*3)).off+2,none⟩=some v:=by
 obtain⟨a,⟨d,b,v⟩,e,f,c⟩:=cN.at_ cM af h r
 refine⟨a,d,b,v,e,f,by simpa[add_zero]using c 0 _ rfl,?_,?_⟩
 .have:=c 1 _ rfl;rwa [add_lit _ _ af]at this
 .have:=c 2 _ rfl;rwa [add_lit _ _ af]at this
def FY(d h v:Int):Bool:=(d==1 || d==2) && iv h 65536 && iv v 4294967296
def kV(c:Int×Int×Int):Bool:=FY c.1 c.2.1 c.2.2
def bt(ki ar va:Int)(cs:List (Int×Int×Int)):Bool:=decide (1<=ki/\ki<=9) && iv ar 65536 && iv va 4294967296 && decide (cs.length<=3) && cs.all kV
theorem FZ{p:α->Bool}{k:Nat}(r:n=cs.length)(q:¬k<n)(h:∀(j:Nat) (c:α),j<k->cs[j]?=some c->p c=true):cs.all p=true:=by rw[List.all_eq_true];intro c b;obtain⟨i,a⟩:=List.mem_iff_getElem?.1 b;exact h i c (by have:=bT a;omega) a
theorem S0{p:α->Bool}{k:Nat}{c:α}(h:cs[k]?=some c)(q:p c=false):cs.all p=false:=by
 rcases a:cs.all p with _|_
 .rfl
 .have:=List.all_eq_true.1 a c (cH h);rw[q]at this;cases this
theorem XW{p:α->Prop}{k:Nat}{c:α}(h:∀(j:Nat) (c:α),j<k->cs[j]?=some c->p c)(q:cs[k]?=some c)(r:p c):∀(j:Nat) (c:α),j<k+1->cs[j]?=some c->p c:=by
 intro j d e a;by_cases b:j=k
 .subst b;rw[q]at a;injection a with a
  rw[<-a];exact r
 .exact h j d aa a
theorem S1(w:World)(d h v:Int):Calls prog 114 #[.agg #[d,h,v]] w λe w'=>e=.returned (FY d h v)/\Below w w w':=by
 by_cases c:d=1\/d=2
 .have a:(d==1)=true\/(d==1)=false/\(d==2)=true:=by rcases c with rfl|rfl<;>decide
  have i:FY d h v=(iv h 65536 && iv v 4294967296):=by rcases c with rfl|rfl<;>simp[FY]
  obtain⟨g,l⟩:=av i c;clear i c;rcases a with a|⟨a,j⟩
  all_goals
   go_enter func114,ntmps114;go_wp2_with fail;go_fit (BL _ _);rintro e w' ⟨rfl,rfl⟩;rcases b:iv h 65536 with _|_
   .have f:=ae b;clear b;go_wp2;go_ret;exact⟨bK (by rw[g.Y,f.Y];rfl),aj (ai _) _⟩
   .have f:=ae b;clear b;go_wp2_with fail;go_fit (uK _ _);rintro e w' ⟨rfl,rfl⟩;go_wp2;go_ret;exact⟨bK (by rw[g.Y,f.Y];simp),aj (ai _) _⟩
 .have b:(d==1)=false:=by simp;omega
  have k:(d==2)=false:=by simp;omega
  clear c;go_enter func114,ntmps114;go_wp2;go_ret;exact⟨bK (by unfold FY;rw[b,k];simp),aj (ai _) _⟩
theorem mZ(w:World)(ki ar va:Int)(df:Bool)(A:Option Addr)(c:Nat)(cs:List (Int×Int×Int))(r:cs.length<=9223372036854775807)(s:cN w bj A cs) :
 Calls prog 72 #[.agg #[ki,ar,va,df,.slice A cs.length c]] w λe w'=>e=.returned (bt ki ar va cs)/\Below w w w':=by
 obtain⟨n,m⟩:=aw cs.length
 rw[<-m]at r ⊢
 have f:=ae m;clear m
 have t:=ae s;clear s
 by_cases F:ki<1
 .exact aap
 by_cases G:9<ki
 .exact aap
 have hk:decide (1<=ki/\ki<=9)=true:=by simp;omega
 rcases h3:iv ar 65536 with _|_
 .have hq:bt ki ar va cs=false:=by unfold bt;rw[h3];simp
  obtain⟨HQ,H3⟩:=av hq h3;clear hq h3 hk;go_enter func72,ntmps72;go_wp2_with fail;go_fit (BL _ _);rw[H3.Y];rintro e w' ⟨rfl,rfl⟩;go_wp2;go_ret;exact⟨bK HQ.symm,aj (ai _) _⟩
 rcases h4:iv va 4294967296 with _|_
 .have hq:bt ki ar va cs=false:=by unfold bt;rw[h4];simp
  exact aaq
 by_cases H:3<n
 .have hq:bt ki ar va cs=false:=by unfold bt;rw[show decide (cs.length<=3)=false by rw[<-f.Y];simp;omega];simp
  exact aaq
 have hq:bt ki ar va cs=cs.all kV:=by unfold bt;rw[h3,h4,hk,show decide (cs.length<=3)=true by rw[<-f.Y];simp;omega];simp
 obtain⟨HQ,H3,H4⟩:=aS hq h3 h4;clear hq h3 h4 hk r
 go_enter func72,ntmps72
 go_wp2_with fail
 go_fit (BL _ _);rw[H3.Y];rintro e w' ⟨rfl,rfl⟩
 go_wp2_with fail
 go_fit (uK _ _);rw[H4.Y];rintro e w' ⟨rfl,rfl⟩
 go_wp2
 go_loopw[34] (λi wr=>∃k:Nat,k<=n/\i=k/\Below w w wr/\Hid (∀(j:Nat) (x:Int×Int×Int),j<k->cs[j]?=some x->kV x=true)) (λi _=>n-(intOf i).toNat)
 case atStart=>exact⟨0,aZ _,rfl,aj (ai _) _,λj x I=>by omega⟩
 case round =>
  obtain⟨k,hk,rfl,g,o⟩:=hrel;by_cases b:k<n
  .obtain⟨E,d,C,v,u,(q:Hid _),y,z,B⟩:=Je (t.below g) (i:=k) (by rw[<-f.Y];exact b);subst u;go_wp2_with fail;go_fit (S1 _ _ _ _);rcases h:FY d C v with _|_
   .have l:=ae h;clear h;rintro e D ⟨rfl,a⟩;go_wp2;go_ret;exact⟨bK (by rw[HQ.Y,S0 q.Y l.Y]),ah (aj g _) a⟩
   .have l:=ae h;clear h;rintro e D ⟨rfl,a⟩;go_wp2;go_roundw;case rel=>exact⟨k+1,aa,by go_num,ah (aj g _) a,XW (p:=λx=>kV x=true) o q l⟩
    case measure=>simp[intOf];omega
  .go_wp2;go_ret;exact⟨bK (by rw[HQ.Y,FZ f.Y b o.Y]),g⟩
def il(p:α->Bool)(h:List α):Int:=match h.findIdx? p with|some i=>i|none=>-1
theorem xf{p:α->Bool}{q:List α}{k:Nat}(r:q[k]?=some z)(h:∀(j:Nat) (y:α),j<k->q[j]?=some y->p y=false)(s:p z=true):il p q=k:=by
 have:q.findIdx? p=some k:=by
  rw[List.findIdx?_eq_some_iff_getElem];have b:=bT r;refine⟨b,?_,λj a=>?_⟩
  .rw[(List.getElem?_eq_some_iff.1 r).2];exact s
  .have:=h j _ a (cq aa);simp[this]
 unfold il;rw[this]
theorem F0{p:α->Bool}{q:List α}{k:Nat}(s:n=q.length)(r:¬k<n)(h:∀(j:Nat) (y:α),j<k->q[j]?=some y->p y=false):il p q=-1:=by
 have:q.findIdx? p=none:=by rw[List.findIdx?_eq_none_iff];intro x b;obtain⟨j,a⟩:=List.getElem?_of_mem b;exact h j x (by have:=bT a;omega) a
 unfold il;rw[this]
theorem ly(p:α->Bool)(q:List α):decide (0<=il p q)=q.any p:=by
 unfold il;rw[List.any_eq,Bool.eq_iff_iff,eI,eI];cases h:q.findIdx? p with
 |none =>
  rw[List.findIdx?_eq_none_iff]at h;constructor
  .intro a;exact absurd a af
  .rintro⟨x,d,b⟩;rw[h x d]at b;cases b
 |some i=>rw[List.findIdx?_eq_some_iff_getElem]at h;obtain⟨a,c,_⟩:=h;exact⟨λ_=>⟨_,List.getElem_mem a,c⟩,λ_=>by show(0:Int)<=(i:Int);omega⟩
theorem qw{p:α->Bool}{q:List α}{k:Nat}(s:q[k]?=some z)(h:∀(j:Nat) (y:α),j<k->q[j]?=some y->p y=false)(r:p z=false):∀(j:Nat) (y:α),j<k+1->q[j]?=some y->p y=false:=by
 intro j y b a;by_cases e:j=k
 .subst e;rw[s]at a;injection a with a;rw[<-a];exact r
 .exact h j y aa a
theorem pq(w:World)(n a b:Int):Calls prog 176 #[n,a,b] w λe w'=>e=.returned (iN n a b)/\w=w':=by go_enter func176,ntmps176;exact VJ
theorem nZ(w:World)(n a b:Int)(h:a<=n/\n<=b):Calls prog 176 #[n,a,b] w λe w'=>e=.returned true/\w=w':=by have:=pq w n a b;rw[show iN n a b=true by unfold iN;exact cg h]at this;exact this
def zX(h z:Int):Bool:= !iN z 0 h
def zY(z:Int):Bool:= !iN z 0 4294967295
section
variable(w:World)
theorem S3(z:Int)(_:g<w.heap.size)(h:w.cell? ⟨g,3,none⟩=some cp) :
 Calls prog 206 #[z,.pointer g] w λe w'=>e=.returned (zX cp z)/\w=w':=by
 go_enter func206,ntmps206
 go_wp2_with fail
 go_fit (pq w z 0 cp)
 exact S4
theorem Oe(q:g<w.heap.size/\w.cell? ⟨g,3,none⟩=some cp)(z:Int)(h:World)(r:Below w w h) :
 Calls prog 206 #[z,.pointer g] h λe w2=>e=.returned (zX cp z)/\Below h h w2 :=
 (S3 h z (bW q.1 r.size) ((r.cell (p:=⟨g,3,none⟩) q.1).trans q.2)).mono λ_ _ ⟨h1,h2⟩=>⟨h1,h2▸ai h⟩
theorem S5(r:g<w.heap.size/\w.cell? ⟨g,3,none⟩=some cp)(A:Option Addr)(m:Nat)(q:List Int)(n:Nat)(s:n=q.length)(D:bD w .i64 A q)(F:n<=100000) :
 Calls prog 226 #[.slice A n m,.func (.func 206) #[] #[.pointer g]] w λe w'=>e=.returned (il (zX cp) q)/\Below w w w':=by
 obtain⟨HN,a,d⟩:=aS s D (λz w' (c:Below w w w')=>Oe w r z w' c)
 clear s D r
 go_enter func226,ntmps226
 go_wp2
 go_loopw[5,8] (λ_ i wr=>∃k:Nat,k<=n/\i=k/\Hid (Below w w wr)/\Hid (∀(j:Nat) (y),j<k->q[j]?=some y->(zX cp) y=false)) (λ_ i _=>n-(intOf i).toNat)
 case atStart=>exact⟨0,aZ _,rfl,ai w,λj _ h=>absurd h (Nat.not_lt_zero _)⟩
 case round =>
  obtain⟨k,r,rfl,HB,HX⟩:=hrel;by_cases hlt:k<n
  .obtain⟨f,z,b,(HZ:Hid _),l⟩:=bD.at_ (a.below HB) (i:=k) (by rw[<-HN.Y];exact hlt);subst b;have HC:=ae (d z wr HB);skip;rcases hp:(zX cp) z with _|_
   .exact mk7
   .exact mk8
  .exact mk4
theorem S6(q:g<w.heap.size/\w.cell? ⟨g,3,none⟩=some cp)(A:Option Addr)(m:Nat)(h:List Int)(n:Nat)(s:n=h.length)(D:bD w .i64 A h)(F:n<=100000) :
 Calls prog 205 #[.slice A n m,.func (.func 206) #[] #[.pointer g]] w λe w'=>e=.returned (h.any (zX cp))/\Below w w w':=by
 obtain⟨HI,HA⟩:=av (S5 w q A m h n s D F) (ly (zX cp) h)
 generalize il (zX cp) h=r at HI HA
 clear s D q
 exact aar
theorem Of(z:Int) :
 Calls prog 231 #[z] w λe w'=>e=.returned (zY z)/\w=w':=by
 go_enter func231,ntmps231
 go_wp2_with fail
 go_fit (pq w z 0 4294967295)
 exact S4
theorem Ks(z:Int)(h:World)(_:Below w w h) :
 Calls prog 231 #[z] h λe w2=>e=.returned (zY z)/\Below h h w2 :=
 (Of h z).mono λ_ _ ⟨h1,h2⟩=>⟨h1,h2▸ai h⟩
theorem Og(A:Option Addr)(m:Nat)(q:List Int)(n:Nat)(r:n=q.length)(s:bD w .i64 A q)(D:n<=100000) :
 Calls prog 226 #[.slice A n m,.func (.func 231) #[] #[]] w λe w'=>e=.returned (il zY q)/\Below w w w':=by
 obtain⟨HN,a,d⟩:=aS r s (λz w' (c:Below w w w')=>Ks w z w' c)
 clear r s
 go_enter func226,ntmps226
 go_wp2
 go_loopw[5,8] (λ_ i wr=>∃k:Nat,k<=n/\i=k/\Hid (Below w w wr)/\Hid (∀(j:Nat) (y),j<k->q[j]?=some y->zY y=false)) (λ_ i _=>n-(intOf i).toNat)
 case atStart=>exact⟨0,aZ _,rfl,ai w,λj _ h=>absurd h (Nat.not_lt_zero _)⟩
 case round =>
  obtain⟨k,l,rfl,HB,HX⟩:=hrel;by_cases hlt:k<n
  .obtain⟨f,z,b,(HZ:Hid _),g⟩:=bD.at_ (a.below HB) (i:=k) (by rw[<-HN.Y];exact hlt);subst b;have HC:=ae (d z wr HB);skip;rcases hp:zY z with _|_
   .exact mk7
   .exact mk8
  .exact mk4
theorem Oh(A:Option Addr)(m:Nat)(h:List Int)(n:Nat)(q:n=h.length)(s:bD w .i64 A h)(D:n<=100000) :
 Calls prog 205 #[.slice A n m,.func (.func 231) #[] #[]] w λe w'=>e=.returned (h.any zY)/\Below w w w':=by
 obtain⟨HI,HA⟩:=av (Og w A m h n q s D) (ly zY h)
 generalize il zY h=r at HI HA
 clear q s
 exact aar
end
theorem aO{c:dG}(h:aV c=true):(1<=c.threads/\c.threads<=64)/\(1<=c.nodes/\c.nodes<=64)/\(1<=c.aP/\c.aP<=32)/\(0<=c.aB/\c.aB<=4)/\(1<=c.tags/\c.tags<=4294967295)/\(1<=c.bw/\c.bw<=1048575)/\nI c=true:=by unfold aV at h;simp only[eT,iN,eI]at h;obtain⟨⟨⟨⟨⟨⟨a,b⟩,d⟩,e⟩,f⟩,g⟩,i⟩:=h;exact⟨a,b,d,e,f,g,i⟩
theorem ru{c:dG}(h:nI c=true)(q:c.kind=1\/c.kind=2):(1<=c.cap/\c.cap<=16)/\c.chans=0/\c.bn=0/\c.start=[]:=by unfold nI at h;rw[ay q]at h;simp only[eT,iN,eI,beq_iff_eq]at h;obtain⟨⟨⟨a,b⟩,d⟩,e⟩:=h;exact⟨a,b,d,List.eq_nil_of_length_eq_zero e⟩
theorem qz{c:dG}(h:nI c=true)(q:c.kind=3):(1<=c.chans/\c.chans<=8)/\(0<=c.cap/\c.cap<=8)/\(1<=c.bn/\c.bn<=4095)/\(c.start.length:Int)<=c.chans/\c.start.any (zX c.cap)=false:=by unfold nI at h;rw[au aa,ay q]at h;simp only[eT,iN,eI]at h;obtain⟨⟨⟨⟨a,b⟩,d⟩,e⟩,f⟩:=h;refine⟨a,b,d,e,?_⟩;rw[List.any_eq_false];intro x g;have:=List.all_eq_true.1 f x g;rw[eI]at this;unfold zX iN;rw[cg this];simp
theorem Dx{c:dG}(h:nI c=true):c.kind=1\/c.kind=2\/c.kind=3:=by
 unfold nI at h;split at h
 .rename_i a;omega
 .split at h
  .rename_i a;omega
  .cases h
theorem S7(w:World){c:dG}(hc:nI c=true){k:Nat}(hn:n=c.start.length)(hr:bD w .i64 A c.start) :
 Calls prog 177 #[.agg #[c.kind,c.threads,c.chans,c.cap,c.nodes,c.aP,c.aB,c.tags,c.bw,c.bn,.slice A n k]] w λe w'=>e=.returned true/\Below w w w':=by
 rcases Dx hc with hk|hk|hk
 .obtain⟨h1,h2,h3,h4⟩:=ru hc (.inl hk);have d1:(c.kind==1)=true:=by simpa using hk
  exact aas
 .obtain⟨h1,h2,h3,h4⟩:=ru hc (.inr hk);have d1:(c.kind==1)=false:=by rw[hk];rfl
  have b:(c.kind==2)=true:=by simpa using hk
  exact aas
 .obtain⟨h1,h2,h3,h4,h⟩:=qz hc hk;have d1:(c.kind==1)=false:=by rw[hk];rfl
  have b:(c.kind==2)=false:=by rw[hk];rfl
  have j:(c.kind==3)=true:=by simpa using hk
  have d2:decide ((n:Int)<=c.chans)=true:=cg aa;obtain⟨m,o,i⟩:=aS (nZ (w.alloc (dB c A n k)) c.chans 1 8 h1) (nZ (w.alloc (dB c A n k)) c.cap 0 8 h2) (nZ (w.alloc (dB c A n k)) c.bn 1 4095 h3);have l:∀(f:Fn) (first a:Array Value) (w:World),(Instr.makeFunc f first a).run prog w=.ok (.func f first a) w:=λ_ _ _ _=>rfl;have d:=ae (S6 (w.alloc (dB c A n k)) (g:=w.heap.size) (cp:=c.cap) ⟨aA,aA⟩ A k c.start n hn (hr.alloc _) aa);rw[h]at d;clear hk h1 h2 h3 h4 h hn hr hc;go_enter func177,ntmps177;go_wp2_with fail;refine m.mono ?_;rintro e w' ⟨rfl,rfl⟩;go_wp2_with fail;refine o.mono ?_;rintro e w' ⟨rfl,rfl⟩;go_wp2_with fail;refine i.mono ?_;rintro e w' ⟨rfl,rfl⟩;go_wp2_with fail;refine d.mono ?_;exact VK
theorem ji(w:World){c:dG}(r:aV c=true){k:Nat}(s:n=c.start.length)(D:bD w .i64 A c.start) :
 Calls prog 124 #[.agg #[c.kind,c.threads,c.chans,c.cap,c.nodes,c.aP,c.aB,c.tags,c.bw,c.bn,.slice A n k]] w λe w'=>e=.returned (.int .i64 0)/\Below w w w':=by
 obtain⟨f,g,h,i,j,l,m⟩:=aO r
 obtain⟨q,t,o,a,b,d⟩:=cS (nZ (w.alloc (dB c A n k)) c.threads 1 64 f) (nZ (w.alloc (dB c A n k)) c.nodes 1 64 g) (nZ (w.alloc (dB c A n k)) c.aP 1 32 h) (nZ (w.alloc (dB c A n k)) c.aB 0 4 i) (nZ (w.alloc (dB c A n k)) c.tags 1 4294967295 j) (nZ (w.alloc (dB c A n k)) c.bw 1 1048575 l)
 have p:=ae (S7 (w.alloc (dB c A n k)) m s (D.alloc _) (k:=k))
 clear f g h i j l m s D r
 go_enter func124,ntmps124
 go_wp2_with fail
 refine q.mono ?_
 rintro e w' ⟨rfl,rfl⟩
 go_wp2_with fail
 refine t.mono ?_
 rintro e w' ⟨rfl,rfl⟩
 go_wp2_with fail
 refine o.mono ?_
 rintro e w' ⟨rfl,rfl⟩
 go_wp2_with fail
 refine a.mono ?_
 rintro e w' ⟨rfl,rfl⟩
 go_wp2_with fail
 refine b.mono ?_
 rintro e w' ⟨rfl,rfl⟩
 go_wp2_with fail
 refine d.mono ?_
 rintro e w' ⟨rfl,rfl⟩
 go_wp2_with fail
 refine p.mono ?_
 exact VK
def dL(w:World)(S:Nat->Prop)(k:IntKind)(A:Option Addr)(h:List Int):Prop:=bD w k A h/\∀a,A=some a->h≠[]->S a.block
def eo(w:World)(S:Nat->Prop)(f:α->List Value)(A:Option Addr)(h:List α):Prop:=cN w f A h/\∀a,A=some a->h≠[]->S a.block
def Sm(S:Nat->Prop)(w h:World):Prop:=∀b,S b->h.heap[b]?=w.heap[b]?
theorem Sm.cell(h:Sm S w w'){a:Addr}(r:S a.block):w'.cell? a=w.cell? a:=by unfold World.cell?;rw[h _ r]
theorem Rd.same(h:Sm S w w')(r:Rd w A xs)(s:∀a,A=some a->xs≠[]->S a.block):Rd w' A xs:=by
 intro i u d;obtain⟨a,c,e⟩:=r i u d;have b:xs≠[]:=by rintro rfl;simp at d
 refine⟨a,c,?_⟩;have f:(a.add i).block=a.block:=by unfold Addr.add;split<;>rfl
 rw[h.cell (by rw[f];exact s a c b)];exact e
theorem dL.same(h:Sm S w w')(r:dL w S k A zs):dL w' S k A zs:=⟨Rd.same h r.1 (λb c a=>r.2 b c (by rintro rfl;exact a rfl)),r.2⟩
theorem dL.mono(D:∀b,S b->S' b)(h:dL w S k A zs):dL w S' k A zs:=⟨h.1,λa c d=>D _ (h.2 a c d)⟩
theorem eo.same(h:Sm S w w'){s:List α}(r:eo w S f A s):eo w' S f A s:=⟨Rd.same h r.1 (λb c a=>r.2 b c (by rintro rfl;exact a rfl)),r.2⟩
theorem eo.mono(D:∀b,S b->S' b){xs:List α}(h:eo w S f A xs):eo w S' f A xs:=⟨h.1,λa c d=>D _ (h.2 a c d)⟩
def Ty(w:World)(e:TypeId)(b:Nat):Prop:=∃ys fr,w.heap[b]?=some (.cells ys e fr)
theorem Ty.lt(h:Ty w e b):b<w.heap.size:=by obtain⟨c,a,h⟩:=h;exact ag.FU h
theorem Ty.below(r:Below w w w')(h:Ty w e b):Ty w' e b:=by have c:=h.lt;obtain⟨d,a,h⟩:=h;exact⟨d,a,(r.block b c).trans h⟩
abbrev Row (m:Nat):={r:List Value // r.length=m/\∀u∈r,u.oneCell'=true}
def dF(r:Row m):List Value:=r.val
theorem bY(r:Row m):(dF r).length=m:=r.property.1
theorem eU(r:Row m):∀u∈dF r,u.oneCell'=true:=r.property.2
abbrev ux (α:Type):=World->(Nat->Prop)->List Value->α->Prop
structure Good {α:Type} (P:ux α):Prop where
 mono:∀{w:World} {S S':Nat->Prop} {r:List Value} {x:α},(∀b,S b->S' b)->P w S r x->P w S' r x
 same:∀{w w':World} {S:Nat->Prop} {r:List Value} {x:α},Sm S w w'->P w S r x->P w' S r x
def jv(m:Nat)(P:ux α)(w:World)(S:Nat->Prop)(A:Option Addr)(h:List α):Prop :=∃rows:List (Row m),rows.length=h.length/\cN w dF A rows/\(∀(i:Nat) (r:Row m) (x:α),rows[i]?=some r->h[i]?=some x->P w S r.val x)
def aD(e:TypeId)(m:Nat)(P:ux α)(w:World)(base:Nat)(S:Nat->Prop)(v:Value)(xs:List α):Prop :=∃rows:List (Row m),rows.length=xs.length/\aH w base e m dF v rows/\(∀(i:Nat) (r:Row m) (x:α),rows[i]?=some r->xs[i]?=some x->P w S r.val x)
section
variable{P:ux α}{xs:List α}
theorem jv.at_(F:0<m)(h:jv m P w S A xs)(D:i<xs.length) :
 ∃a x r,A=some a/\xs[i]?=some x/\P w S r x/\r.length=m/\∀(j:Nat) (u:Value),r[j]?=some u->w.cell? ((a.add (i*m)).add j)=some u:=by
 obtain⟨rows,g,e,f⟩:=h
 obtain⟨a,r,b,c,d⟩:=cN.at_ bY F e (i:=i) aa
 exact⟨a,xs[i],r.val,b,cq D,f i r _ c (cq D),r.property.1,d⟩
theorem jv.nil(m:Nat)(P:ux α)(w:World)(S:Nat->Prop)(A:Option Addr):jv m P w S A []:=⟨[],rfl,cN.nil _ _ _,λi r x h=>by simp at h⟩
theorem jv.below(g:Good P)(F:∀b,S b->b<w.heap.size)(D:Below w w w')(h:jv m P w S A xs):jv m P w' S A xs:=by obtain⟨rows,d,e,f⟩:=h;exact⟨rows,d,e.below D,λi r x a b=>g.same (λc j=>D.block c (F c j)) (f i r x a b)⟩
theorem jv.mono(g:Good P)(D:∀b,S b->S' b)(h:jv m P w S A xs):jv m P w S' A xs:=by obtain⟨rows,c,d,e⟩:=h;exact⟨rows,c,d,λi r x a b=>g.mono D (e i r x a b)⟩
theorem aD.nil(e:TypeId)(m:Nat)(P:ux α)(w:World)(base:Nat)(S:Nat->Prop):aD e m P w base S oN []:=⟨[],rfl,aH.nil _ _ _ _ _,λi r x h=>by simp at h⟩
theorem aD.mono(g:Good P)(D:∀b,S b->S' b)(h:aD e m P w base S v xs):aD e m P w base S' v xs:=by obtain⟨rows,c,d,f⟩:=h;exact⟨rows,c,d,λi r x a b=>g.mono D (f i r x a b)⟩
theorem aD.ah(g:Good P)(F:∀b,S b->b<w.heap.size)(D:Below w w w')(h:aD e m P w base S v xs):aD e m P w' base S v xs:=by obtain⟨rows,d,f,j⟩:=h;exact⟨rows,d,f.ah D,λi r x a b=>g.same (λc k=>D.block c (F c k)) (j i r x a b)⟩
theorem aD.rdX(h:aD e m P w base S v xs):∃A c,v=.slice A xs.length c/\xs.length<=c/\jv m P w S A xs:=by
 obtain⟨rows,b,a,i⟩:=h;obtain⟨A,c,rfl,j⟩:=a.rd;rw[<-b];have f:rows.length<=c:=by
  rcases a.2 with⟨d,l⟩|⟨k,cap',g,d,_,_,f,_⟩
  .injection d with _ b a;omega
  .injection d with _ b a;subst a;exact f
 exact⟨A,c,rfl,f,rows,b,j,i⟩
theorem aD.app{rows:List (Row m)}{r:Row m}(g:Good P)(h:rows.length=xs.length)(q:∀(i:Nat) (r:Row m) (x:α),rows[i]?=some r->xs[i]?=some x->P w S r.val x)(D:Sm S w w')(s:aH w' base e m dF v' (rows++[r]))(F:P w' S r.val x):aD e m P w' base S v' (xs++[x]):=by
 refine⟨rows++[r],by simp[h],s,λi f j a b=>?_⟩
 by_cases d:i<rows.length
 .rw[List.getElem?_append_left d]at a;rw[List.getElem?_append_left aa]at b;exact g.same D (q i f j a b)
 .have c:i=rows.length:=by
   have:=bT a;simp at this;omega
  subst c
  rw[List.getElem?_append_right (aR _),Nat.sub_self]at a
  rw[h,List.getElem?_append_right (aR _),Nat.sub_self]at b
  simp at a b
  subst a b
  exact F
end
theorem bo{t:Nat}{r:α}(h:l[t]?=some r):r∈l:=cH h
theorem mem_set{t:Nat}(h:x∈l.set t y):x=y\/x∈l:=by
 rcases List.mem_or_eq_of_mem_set h with h|h
 .exact .inr h
 .exact .inl h
theorem aK.pw(h:aK w base e k (.slice A n c) zs):n=zs.length/\bD w k A zs:=by exact aat
theorem aH.xS(h:aH w base e m f (.slice A n c) cs):n=cs.length/\cN w f A cs:=by exact aat
theorem aH.shape(h:aH w base e m f v cs):∃A c,v=.slice A cs.length c:=by obtain⟨a,b,d,_⟩:=h.rd;exact⟨a,b,d⟩
theorem aH.empty(w:World)(e:TypeId)(m:Nat)(f:α->List Value):aH (w.alloc (.cells #[] e)) w e m f (.slice w 0 0) []:=World.ownsRow_lit w #[] 0 (aR _) (aZ _) aA
theorem aH.bL(h:aH w base e m f v cs)(D:base'<=base):aH w base' e m f v cs:=by exact VF
theorem aH.cap(h:aH w base e m f (.slice A n c) cs):n=cs.length/\n<=c:=by exact VE
theorem aH.form(h:aH w base e m f v cs)(hne:cs≠[]):∃g c,v=.slice (some ⟨g,0,none⟩) cs.length c/\base<=g/\g<w.heap.size:=by exact aaf
theorem aH.cells(r:∀c,(f c).length=m)(h:aH w base e m f (.slice g n c) cs)(F:cs[i]?=some x)(D:(f x)[j]?=some u):w.cell? ⟨g,i*m+j,none⟩=some u:=by
 obtain⟨o,k⟩:=h.xS;have d:j<m:=by rw[<-r x];exact(List.getElem?_eq_some_iff.1 D).1
 obtain⟨l,a,b⟩:=k (i*m+j) u (by rw[tH r cs i x j F d];exact D);injection a with a
 subst a;rw[lU,Nat.zero_add]at b;exact b
theorem aH.frozen(h:aH w base e m f (.slice g n c) cs)(i:Nat):w.frozen? ⟨g,i,none⟩=false:=by have a:=h.cap.1;subst a;exact World.ownsRow.frozenAt h i
theorem Oi(q:∀c,(f c).length=m):∀(cs:List α) (i:Nat) (x y:α) (j:Nat) (u:Value),cs[i]?=some x->j<m->f y=(f x).set j u->(cs.set i y).flatMap f=(cs.flatMap f).set (i*m+j) u:=by
 intro cs;induction cs with
 |nil=>intro i x y j u h;simp at h
 |cons z l d =>
  intro i x y j u h a b;rcases i with _|i
  .simp at h;subst h;simp only[List.set_cons_zero,List.flatMap_cons,Nat.zero_mul,Nat.zero_add];rw[b,List.set_append_left _ _ (by rw[q];exact a)]
  .simp only[List.getElem?_cons_succ]at h;simp only[List.set_cons_succ,List.flatMap_cons];rw[d i x y j u h a b,List.set_append_right _ _ (by rw[q,Nat.add_mul];omega),q];rw[show(i+1)*m+j-m=i*m+j by rw[Nat.add_mul];omega]
theorem aH.stored(q:∀c,(f c).length=m)(h:aH w base e m f (.slice g n c) cs)(s:cs[i]?=some x)(r:j<m)(D:f y=(f x).set j u) :
 aH (w.setCell ⟨g,i*m+j,none⟩ u) base e m f (.slice g n c) (cs.set i y):=by
 have a:=h.cap.1
 subst a
 have:=(World.ownsRow.stored h (i*m+j) u).1
 unfold aH
 rw[dN,Oi q cs i x y j u s r D]
 exact this
def iz(w:World)(g:Nat)(u0 u1 u2 u3 u4:Value):World:=((((w.setCell ⟨g,0,none⟩ u0).setCell ⟨g,1,none⟩ u1).setCell ⟨g,2,none⟩ u2).setCell ⟨g,3,none⟩ u3).setCell ⟨g,4,none⟩ u4
theorem fx(h:Below B w w1)(q:B<=b)(u0 u1 u2 u3 u4:Value):Below B w (iz w1 b u0 u1 u2 u3 u4):=((((h.setCell q _).setCell q _).setCell q _).setCell q _).setCell q _
theorem dV(h:w.ownsRow base e m v n xs)(r:ag w g t ys)(q:e≠t)(u0 u1 u2 u3 u4:Value) :
 (iz w g u0 u1 u2 u3 u4).ownsRow base e m v n xs:=by
 have a:∀b,v.ownBlock=some b->b≠g:=λb d c=>ba h r q (by rw[d,c])
 exact dH (dH (dH (dH (dH h (p:=⟨g,0,none⟩) a _) (p:=⟨g,1,none⟩) a _) (p:=⟨g,2,none⟩) a _) (p:=⟨g,3,none⟩) a _) (p:=⟨g,4,none⟩) a _
theorem iK(h:ag w g t #[a0,a1,a2,a3,a4])(u0 u1 u2 u3 u4:Value):ag (iz w g u0 u1 u2 u3 u4) g t #[u0,u1,u2,u3,u4]:=((((h.bp 0 u0).bp 1 u1).bp 2 u2).bp 3 u3).bp 4 u4
def jJ(f:α->List Value)(h1:∀x,(f x).length=m)(h2:∀x,∀u∈f x,u.oneCell'=true)(x:α):Row m:=⟨f x,h1 x,h2 x⟩
theorem AG(f:α->List Value)(q:∀x,(f x).length=m)(r:∀x,∀u∈f x,u.oneCell'=true)(h:List α):(h.map (jJ f q r)).flatMap dF=h.flatMap f:=by rw[List.flatMap_map];rfl
theorem cN.rows{h1:∀x,(f x).length=m}{h2:∀x,∀u∈f x,u.oneCell'=true}{h:List α}:cN w dF A (h.map (jJ f h1 h2))↔cN w f A h:=by unfold cN;rw[AG]
theorem aH.rows{h1:∀x,(f x).length=m}{h2:∀x,∀u∈f x,u.oneCell'=true}{h:List α}:aH w base e m dF v (h.map (jJ f h1 h2))↔aH w base e m f v h:=by unfold aH;rw[AG,fP]
def fH(E:TypeId)(w:World)(rows:List (Row m))(n:Nat)(e:Ending)(h:World):Prop :=∃B d,e=.returned (.slice B n d)/\n<=d/\aH h w E m dF (.slice B n d) rows/\Below w w h
def tK(E:TypeId)(m:Nat)(f:α->List Value)(w:World)(q:List α)(n:Nat)(e:Ending)(h:World):Prop :=∃B d,e=.returned (.slice B n d)/\n<=d/\aH h w E m f (.slice B n d) q/\Below w w h
def Jf(E:TypeId)(k:IntKind)(w:World)(q:List Int)(n:Nat)(e:Ending)(h:World):Prop :=∃B d,e=.returned (.slice B n d)/\n<=d/\aK h w E k (.slice B n d) q/\Below w w h
def S8(E:TypeId)(m:Nat)(Q:ux α)(w:World)(S:Nat->Prop)(q:List α)(n:Nat)(e:Ending)(h:World):Prop :=∃B d,e=.returned (.slice B n d)/\n<=d/\aD E m Q h w S (.slice B n d) q/\Below w w h
theorem fH.toF{E:TypeId}{r:∀x,(f x).length=m}{s:∀x,∀u∈f x,u.oneCell'=true}{q:List α}{e:Ending}(h:fH E w (q.map (jJ f r s)) n e w'):tK E m f w q n e w':=by obtain⟨B,d,a,b,c,k⟩:=h;exact⟨B,d,a,b,aH.rows.1 c,k⟩
section
variable(w:World)(A:Option Addr)(c:Nat)
theorem F2:(prog.info? 219).map (λi=>(i.zero,i.size,i.bytes))=some (some (.agg #[oZ,oZ]),2,16):=by kernel_rfl
theorem Ku:(prog.info? 222).map (λi=>(i.zero,i.size,i.bytes))=some (some (.agg #[oZ,oZ,oZ]),3,24):=by kernel_rfl
theorem px:(prog.info? 101).map (λi=>(i.zero,i.size,i.bytes))=some (some (.agg #[oZ,oZ,oZ]),3,24):=by kernel_rfl
theorem ry:(prog.info? 64).map (λi=>(i.zero,i.size,i.bytes))=some (some (.agg #[oZ,oZ,oZ,oZ]),4,32):=by kernel_rfl
theorem m8:(prog.info? 50).map (λi=>(i.zero,i.size,i.bytes))=some (some (.agg #[oZ,oZ,false,false,oN]),5,48):=by kernel_rfl
theorem na:(prog.info? 99).map (λi=>(i.zero,i.size,i.bytes))=some (some (.agg #[false,oZ,oZ,oN]),4,48):=by kernel_rfl
theorem nc:(prog.info? 40).map (λi=>(i.zero,i.size,i.bytes))=some (some (.agg #[oZ,oZ,oZ,oZ,oZ,oZ,false,oN]),8,80):=by kernel_rfl
theorem xT:(prog.info? 80).map (λi=>(i.zero,i.size,i.bytes))=some (some (.agg #[oZ,oZ,oN]),3,40):=by kernel_rfl
theorem py:(prog.info? 66).map (λi=>(i.zero,i.size,i.bytes))=some (some (.agg #[oZ,oZ,oZ,oZ,oZ,oZ,oZ,false,oN,oZ,oZ,oZ,oZ]),13,120):=by kernel_rfl
def S9(f:FuncId)(E:TypeId)(m:Nat)(w:World)(A:Option Addr)(c:Nat):Prop:=∀(xs:List (Row m)) {n:Nat},n=xs.length->n<=1000000->cN w dF A xs->Calls prog f #[.slice A n c] w (fH E w xs n)
theorem pz:S9 172 219 2 w A c /\
 S9 173 222 3 w A c /\
 S9 75 101 3 w A c /\
 S9 251 64 4 w A c /\
 S9 255 50 5 w A c /\
 S9 265 99 4 w A c /\
 S9 52 40 8 w A c /\
 S9 27 80 3 w A c /\
 S9 43 66 13 w A c:=by
 refine⟨?g0,?g1,?g2,?g3,?g4,?g5,?g6,?g7,?g8⟩
 all_goals
  intro e n t C u;have b:=ae t;clear t;have f:=ae u;clear u
 case' g0=>have hnil:=λa=>Lib.run_eql_slice_nil (P:=prog) a 70 219 A n c 0 0 underlying70;go_enter func172,ntmps172
 case' g1=>have hnil:=λa=>Lib.run_eql_slice_nil (P:=prog) a 71 222 A n c 0 0 underlying71;go_enter func173,ntmps173
 case' g2=>have hnil:=λa=>Lib.run_eql_slice_nil (P:=prog) a 36 101 A n c 0 0 underlying36;go_enter func75,ntmps75
 case' g3=>have hnil:=λa=>Lib.run_eql_slice_nil (P:=prog) a 43 64 A n c 0 0 underlying43;go_enter func251,ntmps251
 case' g4=>have hnil:=λa=>Lib.run_eql_slice_nil (P:=prog) a 41 50 A n c 0 0 underlying41;go_enter func255,ntmps255
 case' g5=>have hnil:=λa=>Lib.run_eql_slice_nil (P:=prog) a 42 99 A n c 0 0 underlying42;go_enter func265,ntmps265
 case' g6=>have hnil:=λa=>Lib.run_eql_slice_nil (P:=prog) a 32 40 A n c 0 0 underlying32;go_enter func52,ntmps52
 case' g7=>have hnil:=λa=>Lib.run_eql_slice_nil (P:=prog) a 34 80 A n c 0 0 underlying34;go_enter func27,ntmps27
 case' g8=>have hnil:=λa=>Lib.run_eql_slice_nil (P:=prog) a 61 66 A n c 0 0 underlying61;go_enter func43,ntmps43
 all_goals
  rcases A with _|g
  .have p:e=[]:=by
    rcases e with _|⟨z,l⟩
    .rfl
    .obtain⟨_,_,h,_⟩:=cN.at_ (i:=0) bY af f aA;cases h
   have x:n=0:=by rw[b.Y,p];rfl
   subst x
   have v:=ae p;clear p
   go_wp2
   go_ret
   refine⟨none,0,rfl,aR _,?_,ai _⟩
   rw[v.Y];exact aH.nil _ _ _ _ _
  .go_wp2_with(at_builtin;first
    |refine bR _ rfl _ _ 70 rfl w 219 2 16 (.agg #[oZ,oZ]) dF bY eU underlying70 F2 rfl af _ [] rfl (aH.empty _ _ _ _) (some g) n c e rfl b.symm (cN.alloc f _) ?c4 ?c5 ?c6 ?_
    |refine bR _ rfl _ _ 71 rfl w 222 3 24 (.agg #[oZ,oZ,oZ]) dF bY eU underlying71 Ku rfl af _ [] rfl (aH.empty _ _ _ _) (some g) n c e rfl b.symm (cN.alloc f _) ?c4 ?c5 ?c6 ?_
    |refine bR _ rfl _ _ 36 rfl w 101 3 24 (.agg #[oZ,oZ,oZ]) dF bY eU underlying36 px rfl af _ [] rfl (aH.empty _ _ _ _) (some g) n c e rfl b.symm (cN.alloc f _) ?c4 ?c5 ?c6 ?_
    |refine bR _ rfl _ _ 43 rfl w 64 4 32 (.agg #[oZ,oZ,oZ,oZ]) dF bY eU underlying43 ry rfl af _ [] rfl (aH.empty _ _ _ _) (some g) n c e rfl b.symm (cN.alloc f _) ?c4 ?c5 ?c6 ?_
    |refine bR _ rfl _ _ 41 rfl w 50 5 48 (.agg #[oZ,oZ,false,false,oN]) dF bY eU underlying41 m8 rfl af _ [] rfl (aH.empty _ _ _ _) (some g) n c e rfl b.symm (cN.alloc f _) ?c4 ?c5 ?c6 ?_
    |refine bR _ rfl _ _ 42 rfl w 99 4 48 (.agg #[false,oZ,oZ,oN]) dF bY eU underlying42 na rfl af _ [] rfl (aH.empty _ _ _ _) (some g) n c e rfl b.symm (cN.alloc f _) ?c4 ?c5 ?c6 ?_
    |refine bR _ rfl _ _ 32 rfl w 40 8 80 (.agg #[oZ,oZ,oZ,oZ,oZ,oZ,false,oN]) dF bY eU underlying32 nc rfl af _ [] rfl (aH.empty _ _ _ _) (some g) n c e rfl b.symm (cN.alloc f _) ?c4 ?c5 ?c6 ?_
    |refine bR _ rfl _ _ 34 rfl w 80 3 40 (.agg #[oZ,oZ,oN]) dF bY eU underlying34 xT rfl af _ [] rfl (aH.empty _ _ _ _) (some g) n c e rfl b.symm (cN.alloc f _) ?c4 ?c5 ?c6 ?_
    |refine bR _ rfl _ _ 61 rfl w 66 13 120 (.agg #[oZ,oZ,oZ,oZ,oZ,oZ,oZ,false,oN,oZ,oZ,oZ,oZ]) dF bY eU underlying61 py rfl af _ [] rfl (aH.empty _ _ _ _) (some g) n c e rfl b.symm (cN.alloc f _) ?c4 ?c5 ?c6 ?_)
   case c4=>have:=b.Y;simp;omega
   case c5=>have:=b.Y;simp;omega
   case c6=>simp
   intro D E hown' q _
   have s:=aH.aW (aH.empty _ _ 1 (dF (m:=1))) (aj (ai _) _) q aA (aR _)
   obtain⟨r,y⟩:=av hown' s
   clear s hown' q
   go_wp2
   go_ret
   obtain⟨B,d,o,_⟩:=r.rd
   have k:=r.Y
   have j:e.length=n:=b.symm
   rw[j]at o
   rw[o]at k
   exact⟨B,d,congrArg Ending.returned o,k.cap.2,k,y⟩
theorem F3(h:List (Row 2))(r:n=h.length)(q:n<=1000000)(s:cN w dF A h) :
 Calls prog 172 #[.slice A n c] w (fH 219 w h n):=(pz w A c).1 h r q s
theorem Kv(h:List (Row 3))(r:n=h.length)(q:n<=1000000)(s:cN w dF A h) :
 Calls prog 173 #[.slice A n c] w (fH 222 w h n):=(pz w A c).2.1 h r q s
theorem F4(h:List (Row 3))(r:n=h.length)(q:n<=1000000)(s:cN w dF A h) :
 Calls prog 75 #[.slice A n c] w (fH 101 w h n):=(pz w A c).2.2.1 h r q s
theorem Kw(h:List (Row 4))(r:n=h.length)(q:n<=1000000)(s:cN w dF A h) :
 Calls prog 251 #[.slice A n c] w (fH 64 w h n):=(pz w A c).2.2.2.1 h r q s
theorem F5(h:List (Row 5))(r:n=h.length)(q:n<=1000000)(s:cN w dF A h) :
 Calls prog 255 #[.slice A n c] w (fH 50 w h n):=(pz w A c).2.2.2.2.1 h r q s
theorem F8(h:List (Row 4))(r:n=h.length)(q:n<=1000000)(s:cN w dF A h) :
 Calls prog 265 #[.slice A n c] w (fH 99 w h n):=(pz w A c).2.2.2.2.2.1 h r q s
theorem xU(h:List (Row 8))(r:n=h.length)(q:n<=1000000)(s:cN w dF A h) :
 Calls prog 52 #[.slice A n c] w (fH 40 w h n):=(pz w A c).2.2.2.2.2.2.1 h r q s
theorem F9(h:List (Row 3))(r:n=h.length)(q:n<=1000000)(s:cN w dF A h) :
 Calls prog 27 #[.slice A n c] w (fH 80 w h n):=(pz w A c).2.2.2.2.2.2.2.1 h r q s
theorem Ga(h:List (Row 13))(r:n=h.length)(q:n<=1000000)(s:cN w dF A h) :
 Calls prog 43 #[.slice A n c] w (fH 66 w h n):=(pz w A c).2.2.2.2.2.2.2.2 h r q s
theorem dI:(prog.info? 3).map (λi=>(i.zero,i.size,i.bytes))=some (some (.int .i64 0),1,8):=by kernel_rfl
theorem mG(xs:List Int)(h:n=xs.length)(s:n<=2000000)(r:bD w .i64 A xs) :
 Calls prog 65 #[.slice A n c] w (Jf 3 .i64 w xs n):=by
 have HN:=ae h;clear h
 have b:=ae r;clear r
 have hnil:=λi=>Lib.run_eql_slice_nil (P:=prog) i 22 3 A n c 0 0 underlying22
 rcases A with _|g
 .have a:=b.po;have f:n=0:=by rw[HN.Y,a];rfl
  subst f;have e:=ae a;clear a;go_enter func65,ntmps65;go_wp2;go_ret;refine⟨none,0,rfl,aR _,?_,ai _⟩;rw[e.Y];exact aK.nil _ _ _ _
 .have h0:aK (w.alloc (.cells #[] 3)) w 3 .i64 (.slice w 0 0) []:=aK.empty _ _ _;go_enter func65,ntmps65;go_wp2_with(at_builtin;refine bS _ rfl _ _ 22 rfl w 3 .i64 underlying22 dI _ [] rfl h0 (some g) n c xs rfl HN.symm (bD.alloc b _) ?c4 ?c6 ?_)
  case c4=>have:=HN.Y;simp;omega
  case c6=>simp
  exact aau
theorem uM:(prog.info? 69).map (λi=>(i.zero,i.size,i.bytes))=some (some (.int .u64 0),1,8):=by kernel_rfl
theorem mH(xs:List Int)(r:n=xs.length)(D:n<=2000000)(s:bD w .u64 A xs) :
 Calls prog 77 #[.slice A n c] w (Jf 69 .u64 w xs n):=by
 have HN:=ae r;clear r
 have b:=ae s;clear s
 have hnil:=λh=>Lib.run_eql_slice_nil (P:=prog) h 30 69 A n c 0 0 underlying30
 rcases A with _|g
 .have a:=b.po;have f:n=0:=by rw[HN.Y,a];rfl
  subst f;have e:=ae a;clear a;go_enter func77,ntmps77;go_wp2;go_ret;refine⟨none,0,rfl,aR _,?_,ai _⟩;rw[e.Y];exact aK.nil _ _ _ _
 .have h0:aK (w.alloc (.cells #[] 69)) w 69 .u64 (.slice w 0 0) []:=aK.empty _ _ _;go_enter func77,ntmps77;go_wp2_with(at_builtin;refine bS _ rfl _ _ 30 rfl w 69 .u64 underlying30 uM _ [] rfl h0 (some g) n c xs rfl HN.symm (bD.alloc b _) ?c4 ?c6 ?_)
  case c4=>have:=HN.Y;simp;omega
  case c6=>simp
  exact aau
end
theorem jv.BN{Q:ux α}{q:List α}(h:jv m Q w S A q):∃rows:List (Row m),rows.length=q.length/\cN w dF A rows/\(∀(i:Nat) (r:Row m) (x:α),rows[i]?=some r->q[i]?=some x->Q w S r.val x):=h
theorem fH.toX{E:TypeId}{Q:ux α}(g:Good Q){s:List α}{rows:List (Row m)}(G:∀b,S b->b<w.heap.size)(D:rows.length=s.length)(F:∀(i:Nat) (r:Row m) (x:α),rows[i]?=some r->s[i]?=some x->Q w S r.val x){e:Ending}(h:fH E w rows n e w'):S8 E m Q w S s n e w':=by obtain⟨B,d,a,b,c,k⟩:=h;exact⟨B,d,a,b,⟨rows,D,c,λi r x p q=>g.same (λb f=>k.block b (G b f)) (F i r x p q)⟩,k⟩
theorem Oj(w:World)(A B:Option Addr)(c d:Nat)(q r:List Int)(O:q.length<=17592186044416)(s:r.length<=17592186044416)(F:bD w .u64 A q)(G:bD w .u64 B r) :
 Calls prog 190 #[.slice A q.length c,.slice B r.length d] w λe w'=>e=.returned (q==r)/\w=w':=by
 obtain⟨n,o⟩:=aw q.length
 obtain⟨m,l⟩:=aw r.length
 rw[<-o]at O ⊢
 rw[<-l]at s ⊢
 by_cases K:n=m
 .subst K;have u:=ae o;clear o;have t:=ae l;clear l;have I:=ae F;clear F;have J:=ae G;clear G;go_enter func190,ntmps190;go_wp2;go_loop[14] (λi=>∃k:Nat,k<=n/\i=k/\Hid (∀j x y,j<k->q[j]?=some x->r[j]?=some y->x=y)) (λi=>n-(intOf i).toNat);case atStart=>exact⟨0,aZ _,rfl,λj x y N=>by omega⟩
  case round =>
   obtain⟨k,W,rfl,v⟩:=hrel;by_cases a:k<n
   .obtain⟨S,x,L,(z:Hid _),U⟩:=bD.at_ I (by rw[<-u.Y];exact a);obtain⟨T,y,M,(C:Hid _),V⟩:=bD.at_ J (by rw[<-t.Y];exact a);subst L;subst M;by_cases b:x=y
    .subst b;go_wp2;go_round;case rel =>
      refine⟨k+1,aa,by go_num,λj Q R N H p=>?_⟩;by_cases g:j=k
      .subst g;have D:=z.symm.trans H;have E:=C.symm.trans p;simp only[Option.some.injEq]at D E;rw[<-D, <-E]
      .exact v.Y j Q R aa H p
     case measure=>simp[intOf];omega
    .have X:(y !=x)=true:=by simpa using λh=>b h.symm
     have f:=ae b;clear b;go_wp2;go_ret;refine⟨bK ?_,rfl⟩;symm;rw[dp];rintro rfl;have:=z.symm.trans C;simp only[Option.some.injEq]at this;exact f.Y this
   .go_wp2;go_ret;refine⟨bK ?_,rfl⟩;symm;rw[beq_iff_eq];exact xK u t a v
 .have P:((n:Int) !=(m:Int))=true:=by simp;omega
  go_enter func190,ntmps190;go_wp2;go_ret;refine⟨bK ?_,rfl⟩;symm;rw[dp];rintro rfl;omega
def lY(x:Int×Int×Int):Int:=x.1+x.2.1*256+x.2.2*4294967296
def pQ(r h s:Int)(q:Bool)(n:Int):Int:=r+n*256+(if q=true then 4096 else 0)+h*65536+s*4294967296
def lK(r q D:Int)(F:Bool)(h:List (Int×Int×Int))(s:Int):List Int:=if bt r q D h=true/\iv s 4294967296=true then pQ r q D F h.length::(h.map lY++List.replicate (3-h.length) 0++[s])else[]
theorem Ta(d h v:Int)(q:1<=d)(r:d<=2)(s:0<=h)(D:h<65536)(F:0<=v)(G:v<4294967296) :
 bits BinOp.or IntKind.u64 (bits BinOp.or IntKind.u64 d (h*256)) (v*4294967296)=lY (d,h,v):=by
 rw[mY 8 d (h*256) aa aa aa aa aa aa,
  mY 32 _ (v*4294967296) aa aa aa aa aa aa]
 rfl
theorem Jg(q h r n:Int)(s:1<=q)(D:q<=9)(F:0<=h)(G:h<65536)(H:0<=r)(I:r<4294967296)(J:0<=n)(M:n<=3) :
 bits BinOp.or IntKind.u64 (bits BinOp.or IntKind.u64 (bits BinOp.or IntKind.u64 q (n*256)) (h*65536)) (r*4294967296)=pQ q h r false n:=by
 rw[mY 8 q (n*256) aa aa aa aa aa aa,
  mY 16 _ (h*65536) aa aa aa aa aa aa,
  mY 32 _ (r*4294967296) aa aa aa aa aa aa]
 simp[pQ]
theorem Tb(h q r n:Int)(s:1<=h)(D:h<=9)(F:0<=q)(G:q<65536)(H:0<=r)(I:r<4294967296)(J:0<=n)(M:n<=3) :
 bits BinOp.or IntKind.u64 (pQ h q r false n) 4096=pQ h q r true n:=by
 have e:pQ h q r false n=(h+n*256)+(q+r*65536)*65536:=by simp[pQ];omega
 have j:bits BinOp.or IntKind.u64 (h+n*256) ((q+r*65536)*65536)=pQ h q r false n:=by rw[mY 16 _ _ aa aa aa aa aa aa,e]
 have k:bits BinOp.or IntKind.u64 (h+n*256) 4096=h+n*256+4096:=mY 12 _ _ aa aa aa aa aa aa
 have l:bits BinOp.or IntKind.u64 (h+n*256+4096) ((q+r*65536)*65536)=pQ h q r true n:=by rw[mY 16 _ _ aa aa aa aa aa aa];simp[pQ];omega
 have d:bits BinOp.or IntKind.u64 (bits BinOp.or IntKind.u64 (h+n*256) ((q+r*65536)*65536)) 4096=bits BinOp.or IntKind.u64 (bits BinOp.or IntKind.u64 (h+n*256) 4096) ((q+r*65536)*65536):=by
  obtain⟨x,g⟩:=Int.eq_ofNat_of_zero_le (show 0<=h+n*256 by omega);obtain⟨y,i⟩:=Int.eq_ofNat_of_zero_le (show 0<=(q+r*65536)*65536 by omega);have a:x<2 ^ 64:=aa;have p:y<2 ^ 64:=aa;rw[g,i];have m:=u64_or_nat x y aa aa;have b:=u64_or_nat x 4096 aa aa;have t:x ||| y<2 ^ 64:=Nat.or_lt_two_pow a p
  have u:x ||| 4096<2 ^ 64:=Nat.or_lt_two_pow a aa
  have c:=u64_or_nat (x ||| y) 4096 aa aa;have o:=u64_or_nat (x ||| 4096) y aa aa;have f:((4096:Nat):Int)=4096:=rfl;rw[f]at b c;rw[m,b,c,o,Nat.or_assoc,Nat.or_assoc,Nat.or_comm y 4096]
 rw[<-j,d,k,l]
def lenOf:Value->Nat|.slice _ n _=>n|_=>0
theorem aK.len(h:aK w base e k (.slice A n c) zs):n=zs.length:=by obtain⟨b,d,a,_⟩:=h.rd;injection a
def uN(r:List Int)(w:World)(e:Ending)(s:World):Prop:=∃B d,e=.returned (.slice B r.length d)/\aK s w 69 .u64 (.slice B r.length d) r/\Below w w s
theorem aK.Tc(h:aK w base 69 .u64 v zs)(q:Below a a w)(r:a.heap.size<=base):uN zs a (.returned v) w:=by obtain⟨B,d,rfl⟩:=h.shape;exact⟨B,d,rfl,h.bL r,q⟩
theorem uN.J{e:Ending}(h:uN zs w e w'):SU .u64 zs w e w':=by obtain⟨B,d,rfl,b,a⟩:=h;exact b.acy a
theorem xV(w:World)(r q s:Int)(D:Bool)(A:Option Addr)(c:Nat)(h:List (Int×Int×Int))(F:Int)(hl:h.length<=9223372036854775807)(hr:cN w bj A h) :
 Calls prog 157 #[.agg #[r,q,s,D,.slice A h.length c],F] w (uN (lK r q s D h F) w):=by
 have I:=ae hr;clear hr
 have O:=ae hl;clear hl
 rcases f:bt r q s h with _|_
 .have g:lK r q s D h F=[]:=by unfold lK;rw[au];simp[f]
  obtain⟨B,HQ⟩:=av f g;clear f g;go_enter func157,ntmps157;go_wp2_with fail;go_fit (mZ _ r q s D A c h O (I.alloc _));rw[B.Y];rintro e w1 ⟨rfl,hb1⟩;exact VM
 rcases m:iv F 4294967296 with _|_
 .have g:lK r q s D h F=[]:=by unfold lK;rw[au];simp[m]
  obtain⟨B,N,HQ⟩:=aS f m g;clear f m g;go_enter func157,ntmps157;go_wp2_with fail;refine(mZ _ r q s D A c h O (I.alloc _)).mono ?_;rw[B.Y];rintro e w1 ⟨rfl,hb1⟩;have hc:∀i,w1.cell? ⟨w,i,none⟩=_:=λi=>hb1.cell (p:=⟨w,i,none⟩) aA;go_wp2_with fail;refine(uK _ _).mono ?_;rw[N.Y];rintro e w' ⟨rfl,rfl⟩;exact VM
 have g:lK r q s D h F=pQ r q s D h.length::(h.map lY++List.replicate (3-h.length) 0++[F]):=by unfold lK;rw[ay ⟨f,m⟩]
 have hf:=f
 simp only[bt,iv,eT,eI]at hf
 obtain⟨⟨⟨⟨⟨U,V⟩,W,X⟩,Y,Z⟩,k7⟩,(HM:Hid _)⟩:=hf
 have hp:=m
 simp only[iv,eI]at hp
 obtain⟨p1,p2⟩:=hp
 obtain⟨B,N,HQ⟩:=aS f m g;clear f m g
 obtain⟨n,E⟩:=aw h.length
 have HF:=ae (mZ (w.alloc (.cells #[r,q,s,D,.slice A h.length c] 38)) r q s D A c h O (I.alloc _))
 rw[B.Y, <-E]at HF
 rw[<-E]at k7
 rw[<-E]
 have P:=ae E;clear E
 cases D
 all_goals
  go_enter func157,ntmps157;go_wp2_with fail;refine HF.mono ?_;rintro e w1 ⟨rfl,hb1⟩;have hc:∀i,w1.cell? ⟨w,i,none⟩=_:=λi=>hb1.cell (p:=⟨w,i,none⟩) aA;have Td:=ah (aj (ai _) _) hb1;have hz:w.heap.size<w1.heap.size:=by have:=hb1.size;simp at this;omega
  go_wp2_with fail;go_fit (uK _ _);rw[N.Y];rintro e w' ⟨rfl,rfl⟩;go_wp2;go_loopw[6,45] (λo i wr=>∃(k:Nat) (L:List Int),k<=n/\i=k/\Hid (aK wr w1 69 .u64 o L)/\L.length=k+1/\Hid (L=pQ r q s _ n::(h.take k).map lY)/\Below w w wr/\w1.heap.size<=wr.heap.size) (λ_ i _=>n-(intOf i).toNat);case atStart =>
   refine⟨0,_,aZ _,rfl,aK.lit w1 _ _ [_] aA,rfl,?_,aj Td _,aA⟩;first
    |exact(show[_]=_ by rw[Jg r q s n U V W X Y Z aa aa,Tb r q s n U V W X Y Z aa aa];rfl)
    |exact(show[_]=_ by rw[Jg r q s n U V W X Y Z aa aa];rfl)
  case round =>
   obtain⟨k,L,hk,rfl,Q,n7,l,J,mn⟩:=hrel;have b5:w.heap.size<wr.heap.size:=aa;by_cases S:k<n
   .obtain⟨ad,d,hd,v,hA,T,aq,a6,a7⟩:=Je (I.below J) (i:=k) (by rw[<-P.Y];exact S);subst hA;have hm:=List.all_eq_true.1 HM _ (cH T);simp only[kV,FY,iv,eT,Bool.or_eq_true,beq_iff_eq,eI]at hm;obtain⟨⟨m1,m2,m3⟩,m4,m5⟩:=hm;have m6:1<=d:=aa;have m7:d<=2:=aa;have HX:=ae T;clear T m1;have bz:=J.size;go_wp2_with(at_builtin;refine bS _ rfl _ _ 30 rfl w1 69 .u64 underlying30 gZ _ L rfl ((Q.alloc _).alloc _) (some ⟨wr.heap.size+1,0,none⟩) 1 1 [lY (d,hd,v)] rfl rfl ?c3 ?c4 ?c5 ?_)
    case c3=>rw[<-Ta d hd v m6 m7 m2 m3 m4 m5];exact bD.VD _ _ _ _ aA
    case c4=>simp;omega
    case c5=>simp;omega
    intro v' K hown' b _;have a:=((Q.alloc _).alloc _).aW (aj (aj J _) _) b (by simp;omega) aa;have y:=b.size;have x:w1.heap.size<=K.heap.size:=by simp at y;omega
    have z:=ae hown';clear hown' b y;go_wp2;go_roundw;case rel=>exact⟨k+1,_,aa,by go_num,z,by simp;omega,by rw[Hid,l.Y,eM HX.Y];simp,a,x⟩
    case measure=>simp[intOf];omega
   .have rz:k=n:=aa;subst rz;have uw:=tI P (aR _);have t:=l.Y;rw[uw]at t;have CU:=ae t;clear t uw l;go_wp2;go_loopw[6] (λo wr=>∃(j:Nat) (M:List Int),Hid (aK wr w1 69 .u64 o M)/\M.length=k+1+j/\k+j<=3/\Hid (M=L++List.replicate j 0)/\Below w w wr/\w1.heap.size<=wr.heap.size) (λo _=>4-lenOf o);case atStart=>exact⟨0,L,Q,aa,aa,by simp[Hid],J,mn⟩
    case round =>
     obtain⟨j,M,C,Ky,hj,RU,u,bE⟩:=hrel;obtain⟨A3,c3,G⟩:=C.shape;rw[Ky]at G;subst G;have b6:w.heap.size<wr.heap.size:=aa;have Ok:=u.size;by_cases a8:k+j<3
     .go_wp2_with(at_builtin;refine bS _ rfl _ _ 30 rfl w1 69 .u64 underlying30 gZ _ M rfl (C.alloc _) wr 1 1 [0] rfl rfl (bD.one _ _ _ _) ?c6 ?c7 ?_)
      case c6=>simp;omega
      case c7=>simp;omega
      intro v' K hown' b _;have a:=(C.alloc _).aW (aj u _) b (by simp;omega) aa;have y:=b.size;have x:w1.heap.size<=K.heap.size:=by simp at y;omega
      have AH:(M++[0]).length=k+1+(j+1):=by simp;omega
      obtain⟨A4,c4,H⟩:=hown'.shape;have z:=ae hown';clear hown' b y;go_wp2;go_roundw;case rel=>exact⟨j+1,_,z,AH,aa,by rw[Hid,RU.Y,List.append_assoc,List.replicate_succ'],a,x⟩
      case measure=>rw[AH]at H;simp[H,lenOf];omega
     .have R:j=3-k:=aa;subst R;go_wp2_with(at_builtin;refine bS _ rfl _ _ 30 rfl w1 69 .u64 underlying30 gZ _ M rfl (C.alloc _) wr 1 1 [F] rfl rfl (bD.one _ _ _ _) ?c8 ?c9 ?_)
      case c8=>simp;omega
      case c9=>simp;omega
      intro v' K hown' b _;have a:=(C.alloc _).aW (aj u _) b (by simp;omega) aa;have z:=ae hown';clear hown' b;go_wp2;go_ret;have kL:=z.Tc a aa;have kR:=HQ.Y;rw[<-P.Y]at kR;rw[RU.Y,CU.Y]at kL;rw[kR];simpa using kL
section
variable(w:World)
theorem qB(g:Nat)(a:Addr)(n c:Nat)(h:w.cell? ⟨g,0,none⟩=some (.slice (some a) n c)) :
 Calls prog 101 #[.pointer g] w λe w'=>e=.returned true/\w=w':=by
 have d:=λb=>run_neq_slice_nil_any (P:=prog) b 30 69 (some a) n c 0 0 underlying30
 exact acA
theorem Te(n:Int)(q:1<=n)(r:n<=1048576) :
 Calls prog 94 #[n] w λe w'=>(∃g,e=.returned (.pointer (some ⟨g,0,none⟩))/\Ja w' w g (List.replicate n.toNat 0) [] [] false)/\Below w w w':=by
 obtain⟨m,rfl⟩:=Int.eq_ofNat_of_zero_le (show 0<=n by omega)
 have l:m<=1048576:=aa
 have f:decide ((m:Int)<1)=false:=bF aa
 have h:decide (1048576<(m:Int))=false:=bF aa
 have i:(m==0)=false:=by rw[dp];omega
 have j:decide (1048576<m)=false:=bF aa
 go_enter func94,ntmps94
 go_wp2_with(at_make;refine BH _ rfl _ _ 30 rfl w 69 .u64 underlying30 gZ _ _ _ _ m rfl rfl rfl rfl aa (aR _) ?_)
 intro k c b
 obtain⟨d,a⟩:=av c b
 clear c b
 go_wp2
 go_ret
 refine⟨⟨k,rfl,.slice w m m,oN,oN,?_⟩,aj a _⟩
 refine⟨ag.new _ _ _,?_,aH.nil _ _ _ _ _,aK.nil _ _ _ _,a.size⟩
 rw[fR]
 exact d.alloc _
theorem Ol:(C++List.replicate j (0:Int))++[0]=C++List.replicate (j+1) 0:=by rw[List.append_assoc, <-List.replicate_succ']
theorem Kz(base g:Nat)(I F r:Value)(L:List Int)(G:List Acc)(C:List Int)(kp:Bool)(t:Int)(h:eD w base g I F r L G C kp)(hC:C.length<=64) :
 Calls prog 223 #[.pointer g,t] w λe w'=>e=.returned (.tuple #[])/\(∃vK,eD w' base g I F vK L G (ju C t) kp/\∀b,vK.ownBlock=some b->r.ownBlock=some b\/w.heap.size<=b)/\Rest w w' g I F r/\Below base w w':=by
 by_cases uy:t<0
 .go_enter func223,ntmps223;go_wp2;refine bodyPost_ret (v:=.tuple #[]) (by simp[results,results223,go_sem]) rfl ⟨rfl,⟨r,?_,λb a=>.inl a⟩,Rest.refl _ _ _ _ _,Below.refl _ _⟩;rw[show ju C t=C by unfold ju;rw[ay (.inl uy)]];exact h
 by_cases vN:64<=t
 .go_enter func223,ntmps223;go_wp2;refine bodyPost_ret (v:=.tuple #[]) (by simp[results,results223,go_sem]) rfl ⟨rfl,⟨r,?_,λb a=>.inl a⟩,Rest.refl _ _ _ _ _,Below.refl _ _⟩;rw[show ju C t=C by unfold ju;rw[ay (.inr vN)]];exact h
 obtain⟨k,rfl⟩:=Int.eq_ofNat_of_zero_le (show 0<=t by omega)
 have hk:k<64:=aa
 have qi:decide ((k:Int)<0)=false:=bF aa
 have cw:decide (64<=(k:Int))=false:=bF aa
 have cy:decide (64<=k)=false:=bF aa
 obtain⟨H,HC⟩:=av h hC
 have cv:base<=w.heap.size:=bm h.low (Nat.le_of_lt h.blk.lt)
 clear h hC uy vN
 go_enter func223,ntmps223
 go_wp2
 go_loopg [] (k+1-C.length) (λq wr=>∃(A:Option Addr) (n c:Nat) (D:List Int),n=C.length+(k+1-C.length-q)/\q<=k+1-C.length/\Hid (D=C++List.replicate (k+1-C.length-q) 0)/\Hid (eD wr base g I F (.slice A n c) L G D kp) /\
  Hid (∀b,(Value.slice A n c).ownBlock=some b->r.ownBlock=some b\/w.heap.size<=b)/\Hid (Rest w wr g I F r)/\Hid (Below base w wr))
 case atStart=>obtain⟨A,c,rfl⟩:=aK.shape H.counts;exact⟨A,C.length,c,C,aa,aR _,by simp[Hid],H,λb a=>.inl a,Rest.refl _ _ _ _ _,Below.refl _ _⟩
 case round =>
  obtain⟨A,n,c,D,hn,hq,HD,f,R,HR,Y⟩:=hrel;have s:n=D.length:=f.counts.cap.1;have kR:=HC.Y;have hcell:∀i,wr.cell? ⟨g,i,none⟩=_:=λi=>ag.cell f.blk i;have Jh:∀i,wr.frozen? ⟨g,i,none⟩=false:=λi=>ag.free f.blk i;have ct:=Y.size;have VN:=f.blk.lt;by_cases N:n<=k
  .have Nk:0<gk:=aa;have a8:(n:Int)<=(k:Int):=aa;obtain⟨HN,S,CV⟩:=aS hn hq s;clear hn hq N s;go_wp2_with(at_builtin;refine bS _ rfl _ _ 22 rfl base 3 .i64 underlying22 xL _ D rfl (f.counts.alloc _) wr 1 1 [0] rfl rfl ?c1 ?c2 ?c3 ?_)
   case c1=>exact bD.one _ .i64 _ _
   case c2=>have:=HN.Y;have:=S.Y;have:=CV.Y;simp;omega
   case c3=>simp;omega
   intro v' V hown' B K;have y:=f.alloc (.cells #[oZ] 3);have W:=y.FW hown' B;have m:=y.blk.grown B (ba y.counts y.blk af);obtain⟨Q,T,rfl⟩:=hown'.shape;have M:=y.counts.aW (Y.alloc aa _) B (by simp;omega) (aR _);have b6:∀i,V.cell? ⟨g,i,none⟩=_:=λi=>ag.cell m i;have b7:∀i,V.frozen? ⟨g,i,none⟩=false:=λi=>ag.free m i;have l:∀b,(Value.slice Q (D++[0]).length T).ownBlock=some b->r.ownBlock=some b\/w.heap.size<=b:=by
    intro b a;rcases K with j|j
    .exact R.Y b (j.symm.trans a)
    .rw[j]at a;injection a with a;(try simp at a);exact .inr aa
   have Z:Rest w (V.setCell ⟨g,2,none⟩ (.slice Q (D++[0]).length T)) g I F r:=by
    intro b a U j h2 J;rw[dE _ _ _ _ U];have a7:some b≠(Value.slice A n c).ownBlock:=by
     intro x;rcases R.Y b x.symm with h|h
     .exact J h
     .omega
    have aq:b<(wr.alloc (.cells #[oZ] 3)).heap.size:=by simp;omega
    rw[B.block b aq a7,Below.heap_alloc _ _ _ aa];exact HR.Y b a U j h2 J
   have u:=M.setCell (p:=⟨g,2,none⟩) H.low (.slice Q (D++[0]).length T);have hlen:(D++[0]).length=n+1:=by have:=CV.Y;simp;omega
   rw[hlen]at W l Z u;obtain⟨uO,X,jw,bB,b5⟩:=bQ W l Z u hlen;have b8:g<V.heap.size:=by have:=B.size;simp at this;omega
   rw[hlen];clear W l Z u hlen hown' B K M hcell Jh y m;go_wp2;go_roundg (gk-1);case measure=>omega
   case rel=>refine⟨Q,n+1,T,D++[0],by have:=HN.Y;have:=S.Y;omega,by have:=S.Y;omega,?_,uO,X,jw,bB⟩;show D++[0]=_;rw[HD.Y,Ol,show k+1-C.length-gk+1=k+1-C.length-(gk-1)by have:=S.Y;omega]
  .have o:D=C++List.replicate (k+1-C.length) 0:=by
    rw[HD.Y];congr 2;omega
   obtain⟨z,P⟩:∃z,D[k]?=some z:=⟨_,cq aa⟩
   have O:D≠[]:=by rintro rfl;simp at P
   obtain⟨gc,c9,zZ,fE,bz⟩:=f.counts.form O
   injection zZ with e1 e2 e3
   have hA:=e1;have a6:=e3
   subst hA;subst a6
   have fy:=f.counts.cell P
   have Ji:=f.counts.frozen k
   have a8:¬(n:Int)<=(k:Int):=aa
   have rz:(k:Int)<(n:Int):=aa
   have E:ju C (k:Int)=D.set k (wrap64 (z+1)):=by unfold ju;rw[au aa,fR, <-o];simp[P]
   obtain⟨Jj,bE,HZ⟩:=aS E o P
   clear E o P O s hn hq N e2
   go_wp2
   go_end0
   refine⟨rfl,⟨.slice gc n c,?_,R⟩,?_,Y.setCell (p:=⟨gc,k,none⟩) fE _⟩
   .rw[Jj.Y];have d:=f.Y;refine⟨d.blk.b9 ?_ _,dH d.words (λb a x=>?_) _,dH d.log (λb a x=>?_) _,d.counts.stored k _,d.low⟩
    .intro x;exact ba d.counts d.blk af (congrArg some x)
    .exact cL d.words d.counts af a (congrArg some x)
    .exact cL d.log d.counts af a (congrArg some x)
   .intro b a U j h2 J;rw[dE _ _ _ _ ?_]
    .exact HR.Y b a U j h2 J
    .rintro rfl;rcases R.Y _ rfl with h|h
     .exact J h
     .exact absurd a (Nat.not_lt.2 h)
end
end Go.Proofs.YtpfbfhfcbdbglaaGreat
