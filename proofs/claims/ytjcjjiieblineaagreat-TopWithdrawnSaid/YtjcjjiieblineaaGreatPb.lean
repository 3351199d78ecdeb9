/- Walks and plain facts. No condition. -/
import Derived.Test.YtjcjjiieblineaaGreatPa
namespace Go.Proofs.YtjcjjiieblineaaGreat
open Go.RowKit Go.Proofs.Tryz
set_option maxHeartbeats 8000000
set_option maxRecDepth 100000
set_option linter.all false
variable {w w' w1:World}{n g base k m i b base' top size:Nat}{α:Type}{A:Option Addr}{e:TypeId}{v vl vg vc:Value}{a:Act}{P:Program}{zs L C:List Int}{Q:Exit->Act->World->Prop}{ops:Array Oper}{o:Oper}{ys args:Array Value}{K:Act->World->Prop}{E:Prop}{rest:List Oper}{ad:Addr}{kp:Bool}{row:Option Nat}{fr:Nat × Nat}{z:α}
theorem aa{p:Prop}(h:p):Hid p:=h
theorem jU{k:IntKind}{a b:Int}(h:a=b):Ending.returned (.int k a)=.returned (.int k b):=by rw[h]
theorem bS{a b:Bool}(h:a=b):Ending.returned (.bool a)=.returned (.bool b):=by rw[h]
theorem bc{a:Addr}(h:w.cell? a=some v):a.block<w.heap.size:=by
 rcases Nat.lt_or_ge a.block w.heap.size with h1|h1
 ·exact h1
 ·simp[World.cell?,Array.getElem?_eq_none h1]at h
theorem add_zero(a:Addr):a.add 0=a:=rfl
def iH(w w':World):Prop:=∃q,w'=w.drewN q
theorem iH.refl(w:World):iH w w:=⟨0,rfl⟩
theorem iH.trans{a b c:World}(h:iH a b)(k:iH b c):iH a c:=by obtain⟨q,rfl⟩:=h;obtain⟨r,rfl⟩:=k;exact⟨_,World.drewN_drewN _ _ _⟩
theorem iH.more{a:World}(h:iH a w)(n:Nat):iH a (w.drewN n):=h.trans ⟨n,rfl⟩
theorem iH.one{a:World}(h:iH a w):iH a w.drew:=h.trans ⟨1,rfl⟩
theorem iH.cell(h:iH w w')(a:Addr):w'.cell? a=w.cell? a:=by obtain⟨q,rfl⟩:=h;rfl
theorem iH.below(h:iH w w')(B:Nat):Below B w w':=by obtain⟨q,rfl⟩:=h;exact bO (Below.refl _ _) _
theorem iH.quiet{f:FuncId}(h:Calls P f args (w.drewN n) fun e w'=>e=.returned v/\iH (w.drewN n) w'):Calls P f args (w.drewN n) fun e w'=>e=.returned v/\∃m,w'=w.drewN m:=h.mono fun _ _ ⟨he,_,hm⟩=>⟨he,_,hm.trans (World.drewN_drewN _ _ _)⟩
theorem qc{f:FuncId}(h:Calls P f args (w.drewN n) fun e w'=>e=.returned v/\w.drewN n=w'):Calls P f args (w.drewN n) fun e w'=>e=.returned v/\∃m,w'=w.drewN m:=h.mono fun _ _ ⟨he,hm⟩=>⟨he,_,hm.symm⟩
theorem ag{a b c:World}(h:Below a.heap.size a b)(k:Below b.heap.size b c):Below a.heap.size a c:=h.trans (k.mono h.size)
theorem ak{a:World}(h:Below a.heap.size a w)(o:Obj):Below a.heap.size a (w.alloc o):=h.alloc h.size o
theorem aj(a:World):Below a.heap.size a a:=Below.refl _ _
theorem iH.ag(h:iH w w'):Below w.heap.size w w':=h.below _
theorem qW(a:Addr)(i j:Nat):(a.add i).add j=a.add (i+j):=by unfold Addr.add;by_cases hi:i=0<;>by_cases hj:j=0<;>simp[hi,hj,Nat.add_assoc]
theorem nC(b o k:Nat):(⟨b,o,none⟩:Addr).add k=⟨b,o+k,none⟩:=by unfold Addr.add;split<;>simp_all
theorem YB{a:World}(h:Below n a w)(hg:g<a.heap.size):g<w.heap.size:=bF hg h.size
theorem add_lit(a:Addr)(n:Nat)(h:n≠0):a.add n=⟨a.block,a.off+n,none⟩:=by unfold Addr.add;rw[ai h]
def Rd(w:World)(A:Option Addr)(xs:List Value):Prop:=∀j u,xs[j]?=some u->∃ad,A=some ad/\w.cell? (ad.add j)=some u
def bC(w:World)(k:IntKind)(A:Option Addr)(zs:List Int):Prop:=Rd w A (zs.map (Value.int k))
section
variable{w w':World} {k:IntKind} {A:Option Addr} {zs:List Int} {xs:List Value}
theorem Rd.nil(w:World)(A:Option Addr):Rd w A []:=fun i z h=>by simp at h
theorem bC.nil(w:World)(k:IntKind)(A:Option Addr):bC w k A []:=Rd.nil w A
theorem Rd.below(h:Rd w A xs)(hb:Below w.heap.size w w'):Rd w' A xs:=by intro i z hz;obtain⟨ad,h1,h2⟩:=h i z hz;exact⟨ad,h1,(hb.cell (bc h2)).trans h2⟩
theorem bC.below(h:bC w k A zs)(hb:Below w.heap.size w w'):bC w' k A zs:=Rd.below h hb
theorem Rd.alloc(h:Rd w A xs)(o:Obj):Rd (w.alloc o) A xs:=h.below ((Below.refl _ _).alloc (aS _) o)
theorem bC.alloc(h:bC w k A zs)(o:Obj):bC (w.alloc o) k A zs:=Rd.alloc h o
theorem Rd.drew(h:Rd w A xs)(hd:iH w w'):Rd w' A xs:=h.below (hd.below _)
theorem bC.drew(h:bC w k A zs)(hd:iH w w'):bC w' k A zs:=Rd.drew h hd
theorem bC.tail{z:Int}(h:bC w k (some ad) (z::zs)):bC w k (some ⟨ad.block,ad.off+1,none⟩) zs:=by
 intro j u hu;obtain⟨ad',h1,h2⟩:=h (1+j) u (by rw[Nat.add_comm];exact hu);injection h1 with h1
 subst h1;refine⟨_,rfl,?_⟩;rw[<-add_lit ad 1 ah,qW];exact h2
theorem bC.at_(h:bC w k A zs)(hi:i<zs.length):∃ad z,A=some ad/\zs[i]?=some z/\w.cell? (ad.add i)=some (.int k z):=by obtain⟨ad,h1,h2⟩:=h i (.int k zs[i]) (by simp[hi]);exact⟨ad,zs[i],h1,cD hi,h2⟩
theorem Rd.grown(h:Rd w A xs)(hg:w.grownBy w' row)(hr:∀ad,A=some ad->xs≠[]->some ad.block≠row):Rd w' A xs:=by
 intro i z hz;obtain⟨ad,h1,h2⟩:=h i z hz;have hne:xs≠[]:=by rintro rfl;simp at hz
 refine⟨ad,h1,hg.cell h2 ?_⟩;have:=hr ad h1 hne;have hb:(ad.add i).block=ad.block:=by unfold Addr.add;split<;>rfl
 rw[hb];exact this
theorem Rd.one(w:World)(v:Value)(e:TypeId):Rd (w.alloc (.cells #[v] e)) (some ⟨w.heap.size,0,none⟩) [v]:=fun j u hu=>⟨_,rfl,cell_one_new w v e j u hu⟩
theorem Rd.lit(w:World)(vs:List Value)(e:TypeId):Rd (w.alloc (.cells vs.toArray e)) (some ⟨w.heap.size,0,none⟩) vs:=by
 intro j u hu;refine⟨_,rfl,?_⟩;have hb:((⟨w.heap.size,0,none⟩:Addr).add j)=⟨w.heap.size,j,none⟩:=by unfold Addr.add;split<;>simp_all
 rw[hb];rw[cell_of_row _ w.heap.size j vs.toArray e (0,0) (heap_alloc_new w _)];simpa using hu
theorem Rd.Bd(w:World)(vs:List Value)(e:TypeId)(h:g=w.heap.size):Rd (w.alloc (.cells vs.toArray e)) (some ⟨g,0,none⟩) vs:=h▸Rd.lit w vs e
end
def af(w:World)(g:Nat)(t:TypeId)(cs:Array Value):Prop:=w.heap[g]?=some (.cells cs t (0,0))
section
variable{w w':World} {g:Nat} {t:TypeId} {cs:Array Value}
theorem af.lt(h:af w g t cs):g<w.heap.size:=by
 rcases Nat.lt_or_ge g w.heap.size with h1|h1
 ·exact h1
 ·unfold af at h;rw[Array.getElem?_eq_none h1]at h;cases h
theorem af.cell(h:af w g t cs)(i:Nat):w.cell? ⟨g,i,none⟩=cs[i]?:=cell_of_row w g i cs t (0,0) h
theorem af.free(h:af w g t cs)(i:Nat):w.frozen? ⟨g,i,none⟩=false:=by unfold af at h;simp[World.frozen?,h]
theorem af.aK(h:af w g t cs):(∀i,w.cell? ⟨g,i,none⟩=cs[i]?)/\(∀i,w.frozen? ⟨g,i,none⟩=false)/\g<w.heap.size:=⟨h.cell,h.free,h.lt⟩
theorem af.new(w:World)(t:TypeId)(cs:Array Value):af (w.alloc (.cells cs t)) w.heap.size t cs:=heap_alloc_new w _
theorem af.newAt(w:World)(t:TypeId)(cs:Array Value){g:Nat}(h:g=w.heap.size):af (w.alloc (.cells cs t)) g t cs:=h▸af.new w t cs
theorem af.drewN(h:af w g t cs)(n:Nat):af (w.drewN n) g t cs:=h
theorem af.alloc(h:af w g t cs)(o:Obj):af (w.alloc o) g t cs:=(Below.heap_alloc w o g h.lt).trans h
theorem af.bb(h:af w g t cs)(i:Nat)(u:Value):af (w.setCell ⟨g,i,none⟩ u) g t (cs.setIfInBounds i u):=by unfold af at h ⊢;simp[World.setCell,Array.getElem?_modify,h]
theorem af.far(h:af w g t cs){p:Addr}(hp:g≠p.block)(u:Value):af (w.setCell p u) g t cs:=(dp w p u g hp).trans h
theorem af.below{B:Nat}(h:af w g t cs)(hb:Below B w w')(hg:g<B):af w' g t cs:=(hb.block g hg).trans h
theorem af.ag(h:af w g t cs)(hb:Below w.heap.size w w'):af w' g t cs:=h.below hb h.lt
theorem af.drew(h:af w g t cs)(hd:iH w w'):af w' g t cs:=by obtain⟨q,rfl⟩:=hd;exact h
theorem af.grown(h:af w g t cs)(hb:w.grownBy w' row)(hg:some g≠row):af w' g t cs:=(hb.block g h.lt hg).trans h
end
def Be(w:World)(g:Nat)(t:TypeId)(k:IntKind)(zs:List Int):Prop:=af w g t (zs.map (Value.int k)).toArray
section
variable{w w':World} {g:Nat} {t:TypeId} {k:IntKind} {zs:List Int}
theorem Be.cell(h:Be w g t k zs){z:Int}(hz:zs[i]?=some z):w.cell? ⟨g,i,none⟩=some (.int k z):=by rw[af.cell h i];simp[hz]
theorem Be.bb(h:Be w g t k zs)(i:Nat)(z:Int):Be (w.setCell ⟨g,i,none⟩ (.int k z)) g t k (zs.set i z):=by have:=af.bb h i (.int k z);unfold Be;rw[List.map_set];simpa using this
theorem Be.rd(h:Be w g t k zs):bC w k (some ⟨g,0,none⟩) zs:=by
 intro j u hu;refine⟨_,rfl,?_⟩;have hb:((⟨g,0,none⟩:Addr).add j)=⟨g,j,none⟩:=by unfold Addr.add;split<;>simp_all
 rw[hb,af.cell h j];simpa using hu
end
theorem mJ{f:α->List Value}(hf:∀c,(f c).length=m)(cs:List α):(cs.flatMap f).length=cs.length*m:=by
 induction cs with
 |nil=>simp
 |cons c l ih=>simp[hf,ih,Nat.add_mul,Nat.add_comm]
theorem qX{f:α->List Value}(hf:∀c,(f c).length=m):∀(cs:List α) (i:Nat) (c:α) (j:Nat),cs[i]?=some c->j<m->(cs.flatMap f)[i*m+j]?=(f c)[j]?:=by
 intro cs;induction cs with
 |nil=>intro i c j h;simp at h
 |cons x l ih =>
  intro i c j h hj;rcases i with _|i
  ·simp at h;subst h;simp only[List.flatMap_cons,Nat.zero_mul,Nat.zero_add];rw[List.getElem?_append_left (by rw[hf];exact hj)]
  ·simp only[List.getElem?_cons_succ]at h;simp only[List.flatMap_cons];rw[List.getElem?_append_right (by rw[hf,Nat.add_mul];omega),hf];rw[show(i+1)*m+j-m=i*m+j by rw[Nat.add_mul];omega];exact ih i c j h hj
def cN(w:World)(f:α->List Value)(A:Option Addr)(cs:List α):Prop:=Rd w A (cs.flatMap f)
section
variable{α:Type} {w w':World} {f:α->List Value} {A:Option Addr} {cs:List α}
theorem cN.nil(w:World)(f:α->List Value)(A:Option Addr):cN w f A []:=Rd.nil w A
theorem cN.below(h:cN w f A cs)(hb:Below w.heap.size w w'):cN w' f A cs:=Rd.below h hb
theorem cN.drew(h:cN w f A cs)(hd:iH w w'):cN w' f A cs:=Rd.drew h hd
theorem cN.alloc(h:cN w f A cs)(o:Obj):cN (w.alloc o) f A cs:=Rd.alloc h o
theorem cN.at_(hf:∀c,(f c).length=m)(hm:0<m)(h:cN w f A cs)(hi:i<cs.length) :
 ∃ad c,A=some ad/\cs[i]?=some c/\∀(j:Nat) (u:Value),(f c)[j]?=some u->w.cell? ((ad.add (i*m)).add j)=some u:=by
 have hc:=cD hi
 have key:∀(j:Nat) (u:Value),(f cs[i])[j]?=some u->∃ad,A=some ad/\w.cell? ((ad.add (i*m)).add j)=some u:=by
  intro j u hu;have hj:j<m:=by rw[<-hf cs[i]];exact(List.getElem?_eq_some_iff.1 hu).1
  obtain⟨ad,h1,h2⟩:=h (i*m+j) u (by rw[qX hf cs i cs[i] j hc hj];exact hu);exact⟨ad,h1,by rw[qW];exact h2⟩
 obtain⟨ad,h1,_⟩:=key 0 ((f cs[i])[0]'(by rw[hf];exact hm)) (cD _)
 refine⟨ad,cs[i],h1,hc,fun j u hu=>?_⟩
 obtain⟨ad',h2,h3⟩:=key j u hu
 rw[h1]at h2
 injection h2 with h2
 subst h2
 exact h3
end
theorem Rd.zw{xs:List Value}(h:w.ownsRow base e size v n xs):∃A c,v=.slice A n c/\Rd w A xs:=by
 rcases h.2 with⟨rfl,rfl⟩|⟨g,cap,cur,rfl,hr⟩
 ·have:xs=[]:=List.eq_nil_of_length_eq_zero (by simpa using h.1);subst this;exact⟨_,_,rfl,Rd.nil _ _⟩
 ·exact⟨_,_,rfl,fun j u hu=>⟨_,rfl,h.cells (g:=g) rfl j u hu⟩⟩
theorem bC.zw{k:IntKind}(h:w.ownsRow base e 1 v n (zs.map (Value.int k))):∃A c,v=.slice A zs.length c/\bC w k A zs:=by
 obtain⟨A,c,rfl,hr⟩:=Rd.zw h;have:n=zs.length:=by have:=h.1;simpa using this.symm
 subst this;exact⟨A,c,rfl,hr⟩
section
variable{P:Program} (w:World)
theorem um(base:Nat)(t ty e:TypeId)(i:TypeInfo)(size:Nat)(ht:P.underlying t=some (.slice e))(hi:P.info? e=some i)(v:Value)(n:Nat)(xs:List Value)(hown:w.ownsRow base e size v n xs)(c:Nat):(Builtin.append_ #[t,t] ty #[v,.slice none 0 c]).run P w=.ok v w:=by
 rcases hown.2 with⟨rfl,rfl⟩|⟨g,cap,cur,rfl,_,_,hnc,_⟩
 ·simp[Builtin.append_,run_underlying ht,sizeOf,typeInfo,hi,Builtin.lenOf,Builtin.firstCells]
 ·simp[Builtin.append_,run_underlying ht,sizeOf,typeInfo,hi,Builtin.lenOf,Builtin.firstCells,hnc,storeCells]
theorem Qk(base:Nat)(t ty e:TypeId)(i:TypeInfo)(z:Value)(size bytes:Nat)(ht:P.underlying t=some (.slice e))(hi:P.info? e=some i)(hz:i.zero=some z)(hsize:i.size=size)(hby:i.bytes=bytes)(hzs:z.cells.size=size)(hsz:0<size)(v:Value)(n:Nat)(xs:List Value)(hown:w.ownsRow base e size v n xs)(A:Option Addr)(m c:Nat)(news:List Value)(hl:news.length=m*size)(hr:Rd w A news)(h1:∀u∈news,u.oneCell'=true)(h63:n+m<=maxLen)(hbytes:(n+m)*bytes<=140737488355328)(hbase:base<=w.heap.size) :
 ∃v' w',(Builtin.append_ #[t,t] ty #[v,.slice A m c]).run P w=.ok v' w'/\w'.ownsRow base e size v' (n+m) (xs++news)/\w.grownBy w' v.ownBlock /\
  (v'.ownBlock=v.ownBlock\/v'.ownBlock=some w.heap.size):=by
 rcases A with _|ad
 ·have hn:news=[]:=by
   rcases news with _|⟨u,l⟩
   ·rfl
   ·obtain⟨ad,h,_⟩:=hr 0 u rfl;cases h
  subst hn
  have hm:m=0:=by
   rcases Nat.eq_zero_or_pos m with h0|h0
   ·exact h0
   ·have:=Nat.mul_pos h0 hsz;simp at hl;omega
  subst hm
  exact⟨v,w,um w base t ty e i size ht hi v n xs hown c,by simpa using hown,World.grownBy.refl w _,.inl rfl⟩
 ·have VB:∀j u,news[j]?=some u->w.cell? (ad.add j)=some u:=by
   intro j u hu;obtain⟨ad',h,hc⟩:=hr j u hu;injection h with h
   subst h;exact hc
  obtain⟨v',w',hrun,h2,h3,_,h5⟩:=run_append_own_at (P:=P) w base t ty e i z size bytes ht hi hz hsize hby hzs hsz v n xs hown ad m c news hl VB h1 h63 hbytes hbase
  exact⟨v',w',hrun,h2,h3,h5⟩
theorem DK(s x:Operand)(t:TypeId)(ho:o.op=.call {callee:=.builtin .append,args:=#[s,x],argTypes:=#[t,t]})(base:Nat)(e:TypeId)(i:TypeInfo)(z:Value)(size bytes:Nat)(ht:P.underlying t=some (.slice e))(hi:P.info? e=some i)(hz:i.zero=some z)(hsize:i.size=size)(hby:i.bytes=bytes)(hzs:z.cells.size=size)(hsz:0<size)(v:Value)(n:Nat)(xs:List Value)(hs:a.eval s=v)(hown:w.ownsRow base e size v n xs)(A:Option Addr)(m c:Nat)(news:List Value)(hx:a.eval x=.slice A m c)(hl:news.length=m*size)(hr:Rd w A news)(h1:∀u∈news,u.oneCell'=true)(h63:n+m<=maxLen)(hbytes:(n+m)*bytes<=140737488355328)(hbase:base<=w.heap.size)(h:∀v' w',w'.ownsRow base e size v' (n+m) (xs++news)->w.grownBy w' v.ownBlock->(v'.ownBlock=v.ownBlock\/v'.ownBlock=some w.heap.size)->K (a.put o.dst v') w'):o.wp P a w K Q:=by
 obtain⟨v',w',hrun,h2,h3,h4⟩:=Qk (P:=P) w base t o.type e i z size bytes ht hi hz hsize hby hzs hsz v n xs hown A m c news hl hr h1 h63 hbytes hbase
 unfold Oper.wp execOp
 simp only[ho,resolve,invoke,builtin,Sem.run_bind,Sem.run_pure,Result.andThen_ok,List.map_toArray,List.map_cons,List.map_nil,hs,hx,hrun]
 exact h v' w' h2 h3 h4
theorem DL(hgd:o.guard=none)(s x:Operand)(t:TypeId)(ho:o.op=.call {callee:=.builtin .append,args:=#[s,x],argTypes:=#[t,t]})(base:Nat)(e:TypeId)(i:TypeInfo)(z:Value)(size bytes:Nat)(ht:P.underlying t=some (.slice e))(hi:P.info? e=some i)(hz:i.zero=some z)(hsize:i.size=size)(hby:i.bytes=bytes)(hzs:z.cells.size=size)(hsz:0<size)(v:Value)(n:Nat)(xs:List Value)(hs:a.eval s=v)(hown:w.ownsRow base e size v n xs)(A:Option Addr)(m c:Nat)(news:List Value)(hx:a.eval x=.slice A m c)(hl:news.length=m*size)(hr:Rd w A news)(h1:∀u∈news,u.oneCell'=true)(h63:n+m<=maxLen)(hbytes:(n+m)*bytes<=140737488355328)(hbase:base<=w.heap.size)(h:∀v' w',w'.ownsRow base e size v' (n+m) (xs++news)->w.grownBy w' v.ownBlock->(v'.ownBlock=v.ownBlock\/v'.ownBlock=some w.heap.size)->wpList P ops Q rest (a.put o.dst v') w'):wpList P ops Q (o::rest) a w:=wpList_plain hgd fun _ hK=>DK w s x t ho base e i z size bytes ht hi hz hsize hby hzs hsz v n xs hs hown A m c news hx hl hr h1 h63 hbytes hbase fun v' w' h2 h3 h4=>hK _ _ (h v' w' h2 h3 h4)
end
theorem yn{B:Nat}{a:World}{xs:List Value}(h:Below B a w)(hown:w.ownsRow base e size v n xs)(hg:w.grownBy w' v.ownBlock)(hB:B<=w.heap.size)(hb:B<=base):Below B a w':=h.grown hg hB fun k hk=>bm hb (hown.lt k hk).1
theorem K6(k:IntKind)(zs:List Int):∀u∈zs.map (Value.int k),u.oneCell'=true:=by intro u hu;obtain⟨z,_,rfl⟩:=List.mem_map.1 hu;rfl
def aL(w:World)(base:Nat)(e:TypeId)(k:IntKind)(v:Value)(zs:List Int):Prop:=w.ownsRow base e 1 v zs.length (zs.map (Value.int k))
section
variable{w w':World} {base:Nat} {e:TypeId} {k:IntKind} {v:Value} {zs:List Int}
theorem aL.nil(w:World)(base:Nat)(e:TypeId)(k:IntKind):aL w base e k (.slice none 0 0) []:=World.ownsRow_nil _ _ _ _
theorem aL.empty(w:World)(e:TypeId)(k:IntKind):aL (w.alloc (.cells #[] e)) w.heap.size e k (.slice (some ⟨w.heap.size,0,none⟩) 0 0) []:=World.ownsRow_lit w #[] 0 (aS _) (aY _) rfl
theorem aL.lit(w:World)(e:TypeId)(k:IntKind)(zs:List Int)(hl:zs.length<=9223372036854775807):aL (w.alloc (.cells (zs.map (Value.int k)).toArray e)) w.heap.size e k (.slice (some ⟨w.heap.size,0,none⟩) zs.length zs.length) zs:=World.ownsRow_lit w (zs.map (Value.int k)).toArray zs.length (aS _) (by unfold maxLen;omega) aF
theorem aL.rd(h:aL w base e k v zs):∃A c,v=.slice A zs.length c/\bC w k A zs:=bC.zw h
theorem aL.alloc(h:aL w base e k v zs)(o:Obj):aL (w.alloc o) base e k v zs:=World.ownsRow.alloc h o
theorem aL.br{B:Nat}{a:World}(hown:aL w base e k v zs)(h:Below B a w)(hg:w.grownBy w' v.ownBlock)(hB:B<=w.heap.size)(hb:B<=base):Below B a w':=yn h hown hg hB hb
theorem aL.form(h:aL w base e k v zs)(hne:zs≠[]):∃g c,v=.slice (some ⟨g,0,none⟩) zs.length c/\base<=g/\g<w.heap.size:=by exact ZI
theorem aL.cell{c:Nat}(h:aL w base e k (.slice (some ⟨g,0,none⟩) n c) zs){z:Int}(hz:zs[i]?=some z):w.cell? ⟨g,i,none⟩=some (.int k z):=by
 have hn:n=zs.length:=by exact VC
 subst hn;have hi:=(List.getElem?_eq_some_iff.1 hz).1;rw[World.ownsRow.cellAt h i (by simpa using hi)];simp[hz]
theorem aL.frozen{c:Nat}(h:aL w base e k (.slice (some ⟨g,0,none⟩) n c) zs)(i:Nat):w.frozen? ⟨g,i,none⟩=false:=by
 have hn:n=zs.length:=by exact VC
 subst hn;exact World.ownsRow.frozenAt h i
theorem aL.stored{c:Nat}(h:aL w base e k (.slice (some ⟨g,0,none⟩) n c) zs)(i:Nat)(z:Int) :
 aL (w.setCell ⟨g,i,none⟩ (.int k z)) base e k (.slice (some ⟨g,0,none⟩) n c) (zs.set i z):=by
 have hn:n=zs.length:=by exact VC
 subst hn
 have:=(World.ownsRow.stored h i (.int k z)).1
 unfold aL
 rw[cK,List.map_set]
 exact this
end
def acs(k:IntKind)(zs:List Int)(w:World)(e:Ending)(w':World):Prop:=(∃B d,e=.returned (.slice B zs.length d)/\bC w' k B zs)/\Below w.heap.size w w'
def aI(w:World)(base:Nat)(e:TypeId)(m:Nat)(f:α->List Value)(v:Value)(cs:List α):Prop:=w.ownsRow base e m v cs.length (cs.flatMap f)
section
variable{α:Type} {w w':World} {base:Nat} {e:TypeId} {m:Nat} {f:α->List Value} {v:Value} {cs:List α}
theorem aI.nil(w:World)(base:Nat)(e:TypeId)(m:Nat)(f:α->List Value):aI w base e m f (.slice none 0 0) []:=⟨aF,.inl ⟨rfl,rfl⟩⟩
theorem aI.rd(h:aI w base e m f v cs):∃A c,v=.slice A cs.length c/\cN w f A cs:=Rd.zw h
theorem aI.alloc(h:aI w base e m f v cs)(o:Obj):aI (w.alloc o) base e m f v cs:=World.ownsRow.alloc h o
theorem aI.br{B:Nat}{a:World}(hown:aI w base e m f v cs)(h:Below B a w)(hg:w.grownBy w' v.ownBlock)(hB:B<=w.heap.size)(hb:B<=base):Below B a w':=yn h hown hg hB hb
theorem aI.ag(h:aI w base e m f v cs)(hb:Below w.heap.size w w'):aI w' base e m f v cs:=by exact Tq
theorem aI.far(h:aI w base e m f v cs){t:TypeId}{xs:Array Value}(hg:af w g t xs)(hne:e≠t)(i:Nat)(u:Value):aI (w.setCell ⟨g,i,none⟩ u) base e m f v cs:=by exact ZJ
theorem aI.other(h:aI w base e m f v cs){t:TypeId}{xs:Array Value}(hg:w.heap[g]?=some (.cells xs t fr))(hne:e≠t):some g≠v.ownBlock:=by
 rcases h.2 with⟨rfl,_⟩|⟨g',cap,cur,rfl,_,hh,_⟩
 ·simp[Value.ownBlock]
 ·intro he;have:g=g':=by simpa[Value.ownBlock]using he
  subst this;rw[hh]at hg;injection hg with hg
  injection hg with _ ht
  exact hne ht
end
def Ql(k:IntKind)(zs:List Int)(w:World)(e:Ending)(w':World):Prop:=(∃B d,e=.returned (.slice B zs.length d)/\zs.length<=d/\bC w' k B zs)/\Below w.heap.size w w'
theorem Ql.weak{k:IntKind}{e:Ending}(h:Ql k zs w e w'):acs k zs w e w':=by obtain⟨⟨B,d,h1,_,h2⟩,h3⟩:=h;exact⟨⟨B,d,h1,h2⟩,h3⟩
theorem aL.acu{a:World}{k:IntKind}(h:aL w base e k v zs)(hb:Below a.heap.size a w):Ql k zs a (.returned v) w:=by
 rcases h.2 with⟨rfl,h0⟩|⟨g,cap,cur,rfl,_,_,hc,_⟩
 ·have:zs=[]:=List.eq_nil_of_length_eq_zero h0;subst this;exact⟨⟨_,_,rfl,aS _,bC.nil _ _ _⟩,hb⟩
 ·obtain⟨A,c,hv,hr⟩:=h.rd;injection hv with h1 _ h2
  subst h1;subst h2;exact⟨⟨_,_,rfl,hc,hr⟩,hb⟩
section
variable{P:Program} (w:World)
theorem cj(hgd:o.guard=none)(s x:Operand)(t:TypeId)(ho:o.op=.call {callee:=.builtin .append,args:=#[s,x],argTypes:=#[t,t]})(base:Nat)(e:TypeId)(m bytes:Nat)(z:Value)(f:α->List Value)(hf:∀c,(f c).length=m)(h1:∀c,∀u∈f c,u.oneCell'=true)(ht:P.underlying t=some (.slice e))(hi:(P.info? e).map (fun i=>(i.zero,i.size,i.bytes))=some (some z,m,bytes))(hzs:z.cells.size=m)(hm:0<m)(v:Value)(cs:List α)(hs:a.eval s=v)(hown:aI w base e m f v cs)(A:Option Addr)(n c:Nat)(news:List α)(hx:a.eval x=.slice A n c)(hl:news.length=n)(hr:cN w f A news)(hbytes:(cs.length+news.length)*bytes<=140737488355328)(h63:cs.length+news.length<=9223372036854775807)(hbase:base<=w.heap.size)(h:∀v' w',aI w' base e m f v' (cs++news)->w.grownBy w' v.ownBlock->(v'.ownBlock=v.ownBlock\/v'.ownBlock=some w.heap.size)->wpList P ops Q rest (a.put o.dst v') w'):wpList P ops Q (o::rest) a w:=by
 obtain⟨i,iY,hz0,hz1,hz2⟩:=info_parts hi
 subst hl
 refine DL w hgd s x t ho base e i z m bytes ht iY hz0 hz1 hz2 hzs hm v cs.length _ hs hown A news.length c (news.flatMap f) hx (mJ hf _) hr (fun u hu=>?_) (by unfold maxLen;omega) hbytes hbase
  fun v' w' h1 h2 h3=>h v' w' ?_ h2 h3
 ·obtain⟨x,_,hux⟩:=List.mem_flatMap.1 hu;exact h1 x u hux
 ·unfold aI;rw[eN,List.flatMap_append];exact h1
theorem F9(s x:Operand)(t:TypeId)(ho:o.op=.call {callee:=.builtin .append,args:=#[s,x],argTypes:=#[t,t]})(base:Nat)(e:TypeId)(k:IntKind)(ht:P.underlying t=some (.slice e))(hi:(P.info? e).map (fun i=>(i.zero,i.size,i.bytes))=some (some (.int k 0),1,8))(v:Value)(zs:List Int)(hs:a.eval s=v)(hown:aL w base e k v zs)(A:Option Addr)(m c:Nat)(news:List Int)(hx:a.eval x=.slice A m c)(hl:news.length=m)(hr:bC w k A news)(hbytes:(zs.length+news.length)*8<=140737488355328)(hbase:base<=w.heap.size)(h:∀v' w',aL w' base e k v' (zs++news)->w.grownBy w' v.ownBlock->(v'.ownBlock=v.ownBlock\/v'.ownBlock=some w.heap.size)->K (a.put o.dst v') w'):o.wp P a w K Q:=by
 obtain⟨i,iY,hz0,hz1,hz2⟩:=info_parts hi
 subst hl
 refine DK w s x t ho base e i (.int k 0) 1 8 ht iY hz0 hz1 hz2 rfl ah v zs.length _ hs hown A news.length c (news.map (Value.int k)) hx aF hr (K6 _ _) (by unfold maxLen;omega) hbytes hbase
  fun v' w' h1 h2 h3=>h v' w' ?_ h2 h3
 unfold aL
 rw[eN,List.map_append]
 exact h1
theorem cP(hgd:o.guard=none)(s x:Operand)(t:TypeId)(ho:o.op=.call {callee:=.builtin .append,args:=#[s,x],argTypes:=#[t,t]})(base:Nat)(e:TypeId)(k:IntKind)(ht:P.underlying t=some (.slice e))(hi:(P.info? e).map (fun i=>(i.zero,i.size,i.bytes))=some (some (.int k 0),1,8))(v:Value)(zs:List Int)(hs:a.eval s=v)(hown:aL w base e k v zs)(A:Option Addr)(m c:Nat)(news:List Int)(hx:a.eval x=.slice A m c)(hl:news.length=m)(hr:bC w k A news)(hbytes:(zs.length+news.length)*8<=140737488355328)(hbase:base<=w.heap.size)(h:∀v' w',aL w' base e k v' (zs++news)->w.grownBy w' v.ownBlock->(v'.ownBlock=v.ownBlock\/v'.ownBlock=some w.heap.size)->wpList P ops Q rest (a.put o.dst v') w'):wpList P ops Q (o::rest) a w:=wpList_plain hgd fun _ hK=>F9 w s x t ho base e k ht hi v zs hs hown A m c news hx hl hr hbytes hbase fun v' w' h2 h3 h4=>hK _ _ (h v' w' h2 h3 h4)
theorem zx(hg:o.guard=none)(l c:Operand)(t:TypeId)(hop:o.op=Op.makeSlice t l c)(base:Nat)(e:TypeId)(k:IntKind)(ht:P.underlying t=some (.slice e))(hi:(P.info? e).map (fun i=>(i.zero,i.size,i.bytes))=some (some (.int k 0),1,8))(kl kc:IntKind)(L C:Int)(n:Nat)(hl:a.eval l=.int kl L)(hc:a.eval c=.int kc C)(hL:L=(n:Int))(hC:C=(n:Int))(b2:8*n<=281474976710656)(b4:base<=w.heap.size)(hK:∀w',aL w' base e k (.slice (some ⟨w.heap.size,0,none⟩) n n) (List.replicate n 0)->Below w.heap.size w w'->wpList P ops Q rest (a.put o.dst (.slice (some ⟨w.heap.size,0,none⟩) n n)) w') :
 wpList P ops Q (o::rest) a w:=by
 obtain⟨i,iY,hz0,hz1,hz2⟩:=info_parts hi
 refine wpList_make_full w hg l c t hop base e i (.int k 0) 1 ht iY hz0 hz1 kl kc L C n hl hc hL hC (by rw[hz2];exact b2) (by unfold maxLen;omega) b4 fun w' h1 h2=>hK w' ?_ ((Below.refl _ _).grown h2 (aS _) (fun k hk=>by cases hk))
 unfold aL
 have e1:(madeCells (Value.int k 0).cells (n*1)).toList=List.replicate n (Value.int k 0):=by rw[Nat.mul_one];exact toList_madeCells_one _ _
 rw[e1]at h1
 rw[gf,List.map_replicate]
 exact h1
theorem bC.Tr(k:IntKind)(z:Int)(e:TypeId)(h:g=w.heap.size):bC (w.alloc (.cells #[.int k z] e)) k (some ⟨g,0,none⟩) [z]:=by subst h;exact Rd.one w _ e
theorem bC.one(k:IntKind)(z:Int)(e:TypeId):bC (w.alloc (.cells #[.int k z] e)) k (some ⟨w.heap.size,0,none⟩) [z]:=Rd.one w _ e
end
theorem cE{zs:List α}(h:zs[k]?=some z):k<zs.length:=(List.getElem?_eq_some_iff.1 h).1
theorem fz{zs:List α}(h:zs[k]?=some z):zs.take (k+1)=zs.take k++[z]:=by rw[List.take_succ_eq_append_getElem (cE h)];congr 2;exact(List.getElem?_eq_some_iff.1 h).2
theorem qY{zs:List α}(hn:n=zs.length)(h:n<=k):zs.take k=zs:=List.take_of_length_le ae
theorem Bf{xs ys:List α}(hx:n=xs.length)(hy:n=ys.length)(hk:¬k<n)(h:∀(j:Nat) (x y:α),j<k->xs[j]?=some x->ys[j]?=some y->x=y):xs=ys:=by apply List.ext_getElem ae;intro i h1 h2;exact h i _ _ ae (cD h1) (cD h2)
theorem zy{zs:List α}(h:zs[k]?=some z):zs.drop k=z::zs.drop (k+1):=by rw[List.drop_eq_getElem_cons (cE h),(List.getElem?_eq_some_iff.1 h).2]
theorem bC.take{k:IntKind}(h:bC w k A zs)(m:Nat):bC w k A (zs.take m):=by
 intro j u hu;refine h j u ?_;rw[List.map_take]at hu;have hj:j<m:=by have:=(List.getElem?_eq_some_iff.1 hu).1;rw[eW]at this;omega
 rwa [List.getElem?_take_of_lt hj]at hu
theorem aL.cap{k:IntKind}{c:Nat}(h:aL w base e k (.slice A n c) zs):n=zs.length/\n<=c:=by exact Ts
theorem bC.nD{k:IntKind}(h:bC w k none zs):zs=[]:=by
 rcases zs with _|⟨z,l⟩
 ·rfl
 ·obtain⟨_,h,_⟩:=h 0 _ rfl;cases h
theorem bC.drop{k:IntKind}(h:bC w k (some ad) zs)(m:Nat):bC w k (some (ad.add m)) (zs.drop m):=by
 intro j u hu;obtain⟨ad',h1,h2⟩:=h (m+j) u (by rw[List.map_drop,List.getElem?_drop]at hu;exact hu);injection h1 with h1
 subst h1;exact⟨_,rfl,by rw[qW];exact h2⟩
theorem aL.ag{k:IntKind}(h:aL w base e k v zs)(hb:Below w w w'):aL w' base e k v zs:=by exact Tq
theorem aL.weak{k:IntKind}(h:aL w base e k v zs)(hb:base'<=base):aL w base' e k v zs:=by exact Tt
theorem aL.shape{k:IntKind}(h:aL w base e k v zs):∃A c,v=.slice A zs.length c:=by obtain⟨A',c',hv,_⟩:=h.rd;exact⟨A',c',hv⟩
theorem mK(hgd:o.guard=none)(s x:Operand)(t:TypeId)(ho:o.op=.call {callee:=.builtin .append,args:=#[s,x],argTypes:=#[t,t]})(base:Nat)(e:TypeId)(k:IntKind)(ht:P.underlying t=some (.slice e))(hi:(P.info? e).map (fun i=>(i.zero,i.size,i.bytes))=some (some (.int k 0),1,8))(v:Value)(zs:List Int)(hs:a.eval s=v)(hown:aL w base e k v zs)(A:Option Addr)(m c:Nat)(news:List Int)(hx:a.eval x=.slice A m c)(hl:news.length=m)(hr:bC w k A news)(hbytes:(zs.length+news.length)*8<=140737488355328)(hbase:base<=w.heap.size)(h:∀v' w',aL w' base e k v' (zs++news)->w.grownBy w' v.ownBlock->(v'.ownBlock=v.ownBlock\/v'.ownBlock=some w.heap.size)->K (a.put o.dst v') w') :
 if Region.wanted o (yielded ops a.tmps)=true then Oper.wp P o a w K Q else E:=by
 have hw:Region.wanted o (yielded ops a.tmps)=true:=by simp[Region.wanted,hgd]
 rw[au hw]
 exact F9 w s x t ho base e k ht hi v zs hs hown A m c news hx hl hr hbytes hbase h
theorem kP(hgd:o.guard=none)(s x:Operand)(t:TypeId)(ho:o.op=.call {callee:=.builtin .append,args:=#[s,x],argTypes:=#[t,t]})(base:Nat)(e:TypeId)(m bytes:Nat)(z:Value)(f:α->List Value)(hf:∀c,(f c).length=m)(h1:∀c,∀u∈f c,u.oneCell'=true)(ht:P.underlying t=some (.slice e))(hi:(P.info? e).map (fun i=>(i.zero,i.size,i.bytes))=some (some z,m,bytes))(hzs:z.cells.size=m)(hm:0<m)(v:Value)(cs:List α)(hs:a.eval s=v)(hown:aI w base e m f v cs)(A:Option Addr)(n c:Nat)(news:List α)(hx:a.eval x=.slice A n c)(hl:news.length=n)(hr:cN w f A news)(hbytes:(cs.length+news.length)*bytes<=140737488355328)(h63:cs.length+news.length<=9223372036854775807)(hbase:base<=w.heap.size)(h:∀v' w',aI w' base e m f v' (cs++news)->w.grownBy w' v.ownBlock->(v'.ownBlock=v.ownBlock\/v'.ownBlock=some w.heap.size)->K (a.put o.dst v') w') :
 if Region.wanted o (yielded ops a.tmps)=true then Oper.wp P o a w K Q else E:=by
 have hw:Region.wanted o (yielded ops a.tmps)=true:=by simp[Region.wanted,hgd]
 rw[au hw]
 obtain⟨i,iY,hz0,hz1,hz2⟩:=info_parts hi
 subst hl
 refine DK w s x t ho base e i z m bytes ht iY hz0 hz1 hz2 hzs hm v cs.length _ hs hown A news.length c (news.flatMap f) hx (mJ hf _) hr (fun u hu=>?_) (by unfold maxLen;omega) hbytes hbase
  fun v' w' h1 h2 h3=>h v' w' ?_ h2 h3
 ·obtain⟨x,_,hux⟩:=List.mem_flatMap.1 hu;exact h1 x u hux
 ·unfold aI;rw[eN,List.flatMap_append];exact h1
theorem Bg(t e:TypeId)(ht:P.underlying t=some (.slice e))(hi:(P.info? e).map (fun i=>(i.zero,i.size,i.bytes))=some (some (.int .i64 0),1,8))(A:Option Addr)(n c m:Nat)(X:Int)(hX:X=(m:Int))(hm:m<=c)(w:World) :
 (Instr.slice t (.slice A n c) none (some X) none).run P w=.ok (.slice A m c) w:=by
 subst hX
 obtain⟨i,iY,_,qf,_⟩:=info_parts hi
 have h0:0<=(m:Int)/\(m:Int)<=(c:Int):=ae
 by_cases hcm:c=0
 ·have:m=0:=ae;subst this;subst hcm;cases A<;>simp[Instr.slice,Instr.sliceBounds,run_underlying ht,sizeOf,typeInfo,iY,run_sliceBound_if]
 ·simp[Instr.slice,Instr.sliceBounds,run_underlying ht,sizeOf,typeInfo,iY,run_sliceBound_if,h0,hcm];cases A<;>simp[add_zero]
def lT(A:Option Addr)(c m:Nat):Option Addr:=if c=m then A else A.map (·.add m)
theorem bC.from{k:IntKind}{c:Nat}(h:bC w k A zs)(hc:zs.length<=c)(m:Nat):bC w k (lT A c m) (zs.drop m):=by
 unfold lT;by_cases hcm:c=m
 ·rw[List.drop_of_length_le ae];exact bC.nil _ _ _
 ·rw[ai hcm];rcases A with _|ad
  ·rw[h.nD];simp;exact bC.nil _ _ _
  ·exact h.drop m
theorem Bh:(prog.info? 3).map (fun i=>(i.zero,i.size,i.bytes))=some (some (.int .i64 0),1,8):=by kernel_rfl
theorem gg:(prog.info? 44).map (fun i=>(i.zero,i.size,i.bytes))=some (some (.int .u64 0),1,8):=by kernel_rfl
structure Acc where
 (th ki ad wa ol nw:Int)
 ok:Bool
def DM(a:Acc):List Value:=[.int .i64 a.th,.int .i64 a.ki,.int .i64 a.ad,.int .u64 a.wa,.int .u64 a.ol,.int .u64 a.nw,.bool a.ok]
theorem K7(a:Acc):(DM a).length=7:=rfl
theorem K8(a:Acc):∀u∈DM a,u.oneCell'=true:=by intro u hu;simp[DM]at hu;rcases hu with rfl|rfl|rfl|rfl|rfl|rfl|rfl<;>rfl
theorem K9:(prog.info? 246).map (fun i=>(i.zero,i.size,i.bytes))=some (some (.agg #[.int .i64 0,.int .i64 0,.int .i64 0,.int .u64 0,.int .u64 0,.int .u64 0,.bool false]),7,56):=by kernel_rfl
theorem bB{t:TypeId}{xs:List Value}(h:w.ownsRow base e m v n xs)(hg:af w g t ys)(hne:e≠t)(i:Nat)(u:Value) :
 (w.setCell ⟨g,i,none⟩ u).ownsRow base e m v n xs:=by
 exact ZJ
theorem cG{xs:List Value}(h:w.ownsRow base e m v n xs){p:Addr}(hp:∀g,v.ownBlock=some g->g≠p.block)(u:Value):(w.setCell p u).ownsRow base e m v n xs:=by
 obtain⟨h1,h2⟩:=h;refine⟨h1,?_⟩;rcases h2 with h2|⟨g',cap,cur,hv,hb,hh,r⟩
 ·exact Or.inl h2
 ·refine Or.inr ⟨g',cap,cur,hv,hb,?_,r⟩;rw[dp _ _ _ _ (hp g' (by rw[hv];rfl))];exact hh
theorem jL{xs:List Value}(h:w.ownsRow base e m v n xs)(hg:w.grownBy w' row)(hr:∀g,v.ownBlock=some g->some g≠row):w'.ownsRow base e m v n xs:=by
 obtain⟨h1,h2⟩:=h;refine⟨h1,?_⟩;rcases h2 with h2|⟨g',cap,cur,hv,hb,hh,r⟩
 ·exact Or.inl h2
 ·refine Or.inr ⟨g',cap,cur,hv,hb,?_,r⟩;rw[hg.block g' (af.lt hh) (hr g' (by rw[hv];rfl))];exact hh
theorem cR{e':TypeId}{m' n':Nat}{v':Value}{xs xs':List Value}(h:w.ownsRow base e m v n xs)(h':w.ownsRow base' e' m' v' n' xs')(hne:e≠e')(hv:v.ownBlock=some g):some g≠v'.ownBlock:=by
 rcases h.2 with⟨rfl,_⟩|⟨g1,cap1,cur1,rfl,_,hh1,_⟩
 ·simp[Value.ownBlock]at hv
 ·have hg:g1=g:=by simpa[Value.ownBlock]using hv
  subst hg;rcases h'.2 with⟨rfl,_⟩|⟨g2,cap2,cur2,rfl,_,hh2,_⟩
  ·simp[Value.ownBlock]
  ·intro he;have:g1=g2:=by simpa[Value.ownBlock]using he
   subst this;rw[hh1]at hh2;injection hh2 with hh2
   injection hh2 with _ ht
   exact hne ht
theorem aX{xs:List Value}(h:w.ownsRow base e m v n xs)(hv:v.ownBlock=some g):base<=g/\g<w.heap.size:=by
 rcases h.2 with⟨rfl,_⟩|⟨g1,cap1,cur1,rfl,hb,hh1,_⟩
 ·simp[Value.ownBlock]at hv
 ·have hg:g1=g:=by simpa[Value.ownBlock]using hv
  subst hg;exact⟨hb,af.lt hh1⟩
theorem aV{t:TypeId}{xs:List Value}(h:w.ownsRow base e m v n xs)(hg:af w g t ys)(hne:e≠t):some g≠v.ownBlock:=by
 rcases h.2 with⟨rfl,_⟩|⟨g1,cap1,cur1,rfl,hb,hh1,_⟩
 ·simp[Value.ownBlock]
 ·intro he;have tN:g=g1:=by simpa[Value.ownBlock]using he
  subst tN;unfold af at hg;rw[hh1]at hg;injection hg with hg
  injection hg with _ ht
  exact hne ht
theorem af.DN{xs:Array Value}{t:TypeId}(h:w.heap[g]?=some (.cells xs t fr)):g<w.heap.size:=by
 rcases Nat.lt_or_ge g w.heap.size with h1|h1
 ·exact h1
 ·rw[Array.getElem?_eq_none h1]at h;cases h
theorem ed{t:TypeId}{xs:List Value}(h:w.ownsRow base e m v n xs)(hg:w.heap[g]?=some (.cells ys t fr))(hne:e≠t):some g≠v.ownBlock:=by
 rcases h.2 with⟨rfl,_⟩|⟨g1,cap1,cur1,rfl,hb,hh1,_⟩
 ·simp[Value.ownBlock]
 ·intro he;have tN:g=g1:=by simpa[Value.ownBlock]using he
  subst tN;rw[hh1]at hg;injection hg with hg
  injection hg with _ ht
  exact hne ht
structure dD (w:World) (base g:Nat) (vl vg vc:Value) (L:List Int) (G:List Acc) (C:List Int) (kp:Bool):Prop where
 blk:af w g 139 #[vl,vg,vc,.bool kp]
 words:aL w base 44 .u64 vl L
 log:aI w base 246 7 DM vg G
 counts:aL w base 3 .i64 vc C
 low:base<=g
def Ga(w:World)(base g:Nat)(L:List Int)(G:List Acc)(C:List Int)(kp:Bool):Prop:=∃vl vg vc,dD w base g vl vg vc L G C kp
section
variable{w w':World} {base g:Nat} {vl vg vc:Value} {L:List Int} {G:List Acc} {C:List Int} {kp:Bool}
theorem dD.ag(h:dD w base g vl vg vc L G C kp)(hb:Below w.heap.size w w'):dD w' base g vl vg vc L G C kp:=⟨h.blk.ag hb,h.words.ag hb,h.log.ag hb,aL.ag h.counts hb,h.low⟩
theorem Ga.ag(h:Ga w base g L G C kp)(hb:Below w.heap.size w w'):Ga w' base g L G C kp:=by obtain⟨vl,vg,vc,h⟩:=h;exact⟨vl,vg,vc,h.ag hb⟩
theorem dD.alloc(h:dD w base g vl vg vc L G C kp)(o:Obj):dD (w.alloc o) base g vl vg vc L G C kp:=h.ag ((aj w).alloc (aS _) o)
theorem dD.drew(h:dD w base g vl vg vc L G C kp)(q:Nat):dD (w.drewN q) base g vl vg vc L G C kp:=h.ag (bO (aj w) q)
def Rest(w w':World)(g:Nat)(vl vg vc:Value):Prop :=∀b,b<w.heap.size->b≠g->vl.ownBlock≠some b->vg.ownBlock≠some b->vc.ownBlock≠some b->w'.heap[b]?=w.heap[b]?
theorem Rest.refl(w:World)(g:Nat)(vl vg vc:Value):Rest w w g vl vg vc:=fun _ _ _ _ _ _=>rfl
theorem Rest.blk{t:TypeId}{xs:Array Value}(h:Rest w w' g vl vg vc)(hb:af w b t xs)(h0:b≠g)(h1:vl.ownBlock≠some b)(h2:vg.ownBlock≠some b)(h3:vc.ownBlock≠some b):af w' b t xs:=(h b hb.lt h0 h1 h2 h3).trans hb
def DO(g top:Nat)(vl vg vc:Value):Prop:=g<top/\(∀b,vl.ownBlock=some b->b<top)/\(∀b,vg.ownBlock=some b->b<top)/\∀b,vc.ownBlock=some b->b<top
theorem dD.uo(h:dD w base g vl vg vc L G C kp):DO g w.heap.size vl vg vc:=⟨h.blk.lt,fun _ hb=>(aX h.words hb).2,fun _ hb=>(aX h.log hb).2,fun _ hb=>(aX h.counts hb).2⟩
theorem dD.free{t:TypeId}{xs:Array Value}(hr:Rest w w' g vl vg vc)(hl:DO g top vl vg vc)(hb:af w b t xs)(ht:top<=b):af w' b t xs:=by obtain⟨h0,h1,h2,h3⟩:=hl;exact hr.blk hb ae (fun h=>by have:=h1 b h;omega) (fun h=>by have:=h2 b h;omega) (fun h=>by have:=h3 b h;omega)
theorem dD.far(h:dD w base g vl vg vc L G C kp){p:Addr}(hl:DO g top vl vg vc)(hp:top<=p.block)(u:Value):dD (w.setCell p u) base g vl vg vc L G C kp:=by obtain⟨h0,h1,h2,h3⟩:=hl;exact⟨h.blk.far ae u,cG h.words (fun b hb=>by have:=h1 b hb;omega) u,cG h.log (fun b hb=>by have:=h2 b hb;omega) u,cG h.counts (fun b hb=>by have:=h3 b hb;omega) u,h.low⟩
theorem dD.store{gl cl nl:Nat}(h:dD w base g (.slice (some ⟨gl,0,none⟩) nl cl) vg vc L G C kp)(i:Nat)(z:Int) :
 dD (w.setCell ⟨gl,i,none⟩ (.int .u64 z)) base g (.slice (some ⟨gl,0,none⟩) nl cl) vg vc (L.set i z) G C kp:=by
 have Dl:(Value.slice (some ⟨gl,0,none⟩) nl cl).ownBlock=some gl:=rfl
 refine⟨h.blk.far ?_ _,h.words.stored i z,cG h.log (fun g' tN he=>?_) _,cG h.counts (fun g' tN he=>?_) _,h.low⟩
 ·intro he;exact aV h.words h.blk ah (by rw[Dl];exact congrArg some he)
 ·exact cR h.log h.words ah tN (by rw[Dl];exact congrArg some he)
 ·exact cR h.counts h.words ah tN (by rw[Dl];exact congrArg some he)
theorem dD.form(h:dD w base g vl vg vc L G C kp)(hne:L≠[]):∃gl cl,vl=.slice (some ⟨gl,0,none⟩) L.length cl/\base<=gl/\gl<w.heap.size:=h.words.form hne
theorem dD.DR{sA:Value}{C':List Int}(h:dD w base g vl vg vc L G C kp)(ho:aL w' base 3 .i64 sA C')(hg:w.grownBy w' vc.ownBlock):dD (w'.setCell ⟨g,2,none⟩ sA) base g vl vg sA L G C' kp:=by have hb:af w' g 139 #[vl,vg,vc,.bool kp]:=h.blk.grown hg (aV h.counts h.blk ah);have hw:aL w' base 44 .u64 vl L:=jL h.words hg (fun b hb=>cR h.words h.counts ah hb);have hl:aI w' base 246 7 DM vg G:=jL h.log hg (fun b hb=>cR h.log h.counts ah hb);exact⟨af.bb hb 2 sA,bB hw hb ah _ _,bB hl hb ah _ _,bB ho hb ah _ _,h.low⟩
theorem dD.La{vg':Value}{G':List Acc}(h:dD w base g vl vg vc L G C kp)(ho:aI w' base 246 7 DM vg' G')(hg:w.grownBy w' vg.ownBlock):dD (w'.setCell ⟨g,1,none⟩ vg') base g vl vg' vc L G' C kp:=by have hb:af w' g 139 #[vl,vg,vc,.bool kp]:=h.blk.grown hg (aV h.log h.blk ah);have hw:aL w' base 44 .u64 vl L:=jL h.words hg (fun b hb=>cR h.words h.log ah hb);have hc:aL w' base 3 .i64 vc C:=jL h.counts hg (fun b hb=>cR h.counts h.log ah hb);exact⟨af.bb hb 1 vg',bB hw hb ah _ _,bB ho hb ah _ _,bB hc hb ah _ _,h.low⟩
end
section
variable{w w1 w2:World} {g:Nat} {vl vg vc vg' sA:Value}
theorem Rest.jV(h:Rest w w1 g vl vg vc){p:Addr}(hp:w.heap.size<=p.block)(u:Value):Rest w (w1.setCell p u) g vl vg vc:=fun b hb h0 h1 h2 h3=>by rw[dp _ _ _ _ ae];exact h b hb h0 h1 h2 h3
theorem Rest.Gb(h:Rest w w1 g vl vg vc)(u:Value):Rest w (w1.setCell ⟨g,i,none⟩ u) g vl vg vc:=fun b hb h0 h1 h2 h3=>by rw[dp _ _ _ _ h0];exact h b hb h0 h1 h2 h3
theorem Rest.Hw(h:Rest w w1 g vl vg vc){p:Addr}(hp:vl.ownBlock=some p.block)(u:Value):Rest w (w1.setCell p u) g vl vg vc:=fun b hb h0 h1 h2 h3=>by rw[dp _ _ _ _ (fun he=>h1 (by rw[hp,he]))];exact h b hb h0 h1 h2 h3
theorem Rest.drew(h:Rest w w1 g vl vg vc)(q:Nat):Rest w (w1.drewN q) g vl vg vc:=h
theorem Rest.alloc(h:Rest w w1 g vl vg vc)(hs:w.heap.size<=w1.heap.size)(o:Obj):Rest w (w1.alloc o) g vl vg vc:=fun b hb h0 h1 h2 h3=>by rw[Below.heap_alloc _ _ _ ae];exact h b hb h0 h1 h2 h3
theorem Rest.trans(h:Rest w w1 g vl vg vc)(hs:w.heap.size<=w1.heap.size)(k:Rest w1 w2 g vl vg' sA)(hg:∀b,vg'.ownBlock=some b->vg.ownBlock=some b\/w.heap.size<=b)(hc:∀b,sA.ownBlock=some b->vc.ownBlock=some b\/w.heap.size<=b):Rest w w2 g vl vg vc:=fun b hb h0 h1 h2 h3=>by
 refine(k b ae h0 h1 (fun he=>?_) (fun he=>?_)).trans (h b hb h0 h1 h2 h3)
 ·rcases hg b he with h|h
  ·exact h2 h
  ·omega
 ·rcases hc b he with h|h
  ·exact h3 h
  ·omega
theorem Rest.grown(h:Rest w w1 g vl vg vc)(hs:w.heap.size<=w1.heap.size)(hg:w1.grownBy w2 vg'.ownBlock)(hv:∀b,vg'.ownBlock=some b->vg.ownBlock=some b\/w.heap.size<=b):Rest w w2 g vl vg vc:=fun b hb h0 h1 h2 h3=>by
 rw[hg.block b ae (fun he=>?_)]
 ·exact h b hb h0 h1 h2 h3
 ·rcases hv b he.symm with h|h
  ·exact h2 h
  ·omega
end
def Same(a b:World):Prop:=a=b
theorem Same.to{a b:World}(h:Same a b){Q:World->Prop}(q:Q a):Q b:=by unfold Same at h;exact h▸q
def Hx(w:World)(g:Nat)(u0 u1 u2 u3 u4 u5 u6:Value):World:=((((((w.setCell ⟨g,0,none⟩ u0).setCell ⟨g,1,none⟩ u1).setCell ⟨g,2,none⟩ u2).setCell ⟨g,3,none⟩ u3).setCell ⟨g,4,none⟩ u4).setCell ⟨g,5,none⟩ u5).setCell ⟨g,6,none⟩ u6
theorem u9{t:TypeId}{a0 a1 a2 a3 a4 a5 a6:Value}(h:af w g t #[a0,a1,a2,a3,a4,a5,a6])(u0 u1 u2 u3 u4 u5 u6:Value) :
 (w.setCell ⟨g,0,none⟩ u0).cell? ⟨g,0,none⟩=some u0/\((w.setCell ⟨g,0,none⟩ u0).setCell ⟨g,1,none⟩ u1).cell? ⟨g,1,none⟩=some u1 /\
  (((w.setCell ⟨g,0,none⟩ u0).setCell ⟨g,1,none⟩ u1).setCell ⟨g,2,none⟩ u2).cell? ⟨g,2,none⟩=some u2 /\
  ((((w.setCell ⟨g,0,none⟩ u0).setCell ⟨g,1,none⟩ u1).setCell ⟨g,2,none⟩ u2).setCell ⟨g,3,none⟩ u3).cell? ⟨g,3,none⟩=some u3 /\
  (((((w.setCell ⟨g,0,none⟩ u0).setCell ⟨g,1,none⟩ u1).setCell ⟨g,2,none⟩ u2).setCell ⟨g,3,none⟩ u3).setCell ⟨g,4,none⟩ u4).cell? ⟨g,4,none⟩=some u4 /\
  ((((((w.setCell ⟨g,0,none⟩ u0).setCell ⟨g,1,none⟩ u1).setCell ⟨g,2,none⟩ u2).setCell ⟨g,3,none⟩ u3).setCell ⟨g,4,none⟩ u4).setCell ⟨g,5,none⟩ u5).cell? ⟨g,5,none⟩=some u5 /\
  (Hx w g u0 u1 u2 u3 u4 u5 u6).cell? ⟨g,6,none⟩=some u6:=by
 have h0:=h.bb 0 u0
 have h1:=h0.bb 1 u1
 have h2:=h1.bb 2 u2
 have h3:=h2.bb 3 u3
 have h4:=h3.bb 4 u4
 have h5:=h4.bb 5 u5
 have h6:=h5.bb 6 u6
 exact⟨by rw[h0.cell];simp,by rw[h1.cell];simp,by rw[h2.cell];simp,by rw[h3.cell];simp,by rw[h4.cell];simp,by rw[h5.cell];simp,by unfold Hx;rw[h6.cell];simp⟩
theorem yo(h:Rest w w1 g vl vg vc)(hb:w.heap.size<=b)(u0 u1 u2 u3 u4 u5 u6:Value):Rest w (Hx w1 b u0 u1 u2 u3 u4 u5 u6) g vl vg vc:=((((((h.jV hb _).jV hb _).jV hb _).jV hb _).jV hb _).jV hb _).jV hb _
theorem qg{B:Nat}(h:Below B w w1)(hb:B<=b)(u0 u1 u2 u3 u4 u5 u6:Value):Below B w (Hx w1 b u0 u1 u2 u3 u4 u5 u6):=((((((h.setCell hb _).setCell hb _).setCell hb _).setCell hb _).setCell hb _).setCell hb _).setCell hb _
theorem dD.out{G:List Acc}(h:dD w base g vl vg vc L G C kp){p:Addr}(h0:g≠p.block)(h1:vl.ownBlock≠some p.block)(h2:vg.ownBlock≠some p.block)(h3:vc.ownBlock≠some p.block)(u:Value) :
 dD (w.setCell p u) base g vl vg vc L G C kp :=
 ⟨h.blk.far h0 u,cG h.words (fun b hb he=>h1 (by rw[hb,he])) u,cG h.log (fun b hb he=>h2 (by rw[hb,he])) u,cG h.counts (fun b hb he=>h3 (by rw[hb,he])) u,h.low⟩
theorem yq{G:List Acc}(h:dD w base g vl vg vc L G C kp)(h0:g≠b)(h1:vl.ownBlock≠some b)(h2:vg.ownBlock≠some b)(h3:vc.ownBlock≠some b)(u0 u1 u2 u3 u4 u5 u6:Value) :
 dD (Hx w b u0 u1 u2 u3 u4 u5 u6) base g vl vg vc L G C kp :=
 ((((((h.out h0 h1 h2 h3 _).out h0 h1 h2 h3 _).out h0 h1 h2 h3 _).out h0 h1 h2 h3 _).out h0 h1 h2 h3 _).out h0 h1 h2 h3 _).out h0 h1 h2 h3 _
def iv(C:List Int)(t:Int):List Int :=
 if t<0\/64<=t then C else
  let D:=C++List.replicate (t.toNat+1-C.length) 0
  D.set t.toNat (wrap64 (D.getD t.toNat 0+1))
theorem DT(t:Int)(h:C.length<=64):(iv C t).length<=64:=by
 unfold iv;split
 ·exact h
 ·simp;omega
def Tu(g:Int):Int:=(g*2+1)%18446744073709551616
def Bi(x g:Int):Bool:=x==0 || x==Tu g
theorem VD(g:Int):bits BinOp.or IntKind.u64 (IntKind.u64.wrap (IntKind.u64.wrap g*2)) 1=Tu g:=by
 have h1:IntKind.u64.wrap (IntKind.u64.wrap g*2)=(g*2)%18446744073709551616:=by simp only[ig];omega
 rw[h1];have h0:0<=(g*2)%18446744073709551616:=ae;rw[u64_or _ _ h0 ae ae ae];have h2:((g*2)%18446744073709551616).toNat%2 ^ 1=0:=ae;rw[show(1:Int).toNat=1 from rfl,nat_join 1 _ _ h2 ae];unfold Tu;omega
theorem yt(g:Int)(w:World) :
 Calls prog 152 #[g] w fun e w'=>e=.returned (.int .u64 (Tu g))/\w=w':=by
 go_enter func152,ntmps152
 go_wp2
 go_ret
 exact⟨jU (VD g),rfl⟩
theorem Lb(x g:Int)(w:World) :
 Calls prog 180 #[.int .u64 x,g] w fun e w'=>e=.returned (Bi x g)/\w=w':=by
 by_cases h:x=0
 ·subst h;go_enter func180,ntmps180;go_wp2;go_ret;exact⟨bS (by simp[Bi]),rfl⟩
 ·have h0:(x==0)=false:=by simpa using h
  clear h;go_enter func180,ntmps180;go_wp2_with(go_at_call 152;refine(yt _ _).mono ?_;rintro e w' ⟨rfl,rfl⟩)
  go_ret;exact⟨bS (by simp[Bi,h0]),rfl⟩
end Go.Proofs.YtjcjjiieblineaaGreat
