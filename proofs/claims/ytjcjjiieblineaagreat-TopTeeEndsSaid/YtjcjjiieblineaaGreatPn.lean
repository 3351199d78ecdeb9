/- Walks and plain facts. No condition. -/
import Derived.Test.YtjcjjiieblineaaGreatPm
namespace Go.Proofs.YtjcjjiieblineaaGreat
open Go.RowKit Go.Proofs.Tryz Mo
set_option maxHeartbeats 8000000
set_option maxRecDepth 100000
set_option linter.all false
variable {w w' wr:World}{n g base k m i t j b q d m3 m1 n3 m2 dd g3 bl:Nat}{α:Type}{A A1 A3 B A2 D:Option Addr}{c:Mo.bA}{v:Value}{S:Nat->Prop}{h:Mo.Hl}{L:List Int}{x:Mo.Wt}{hd dir sq T W bt:Int}{t1 t2:TypeId}{ok:Bool}{c1:List Value}{xs:List α}
def El(a e:Int)(k:Cs):Bool:=k.1==a && k.2.1==e
def LM(x:Wt)(a e:Int):Int:=max (jC (El a e) x.cases) 0
theorem UW(h:lT x dir hd=some i):LM x dir hd=i:=by
 unfold lT at h;split at h
 ·unfold LM jC;have:x.cases.findIdx? (El dir hd)=some i:=h;rw[this];dsimp only;omega
 ·cases h
theorem ZS(x:Wt)(a f:Int):(lT x a f).isSome=(decide (0<=jC (El a f) x.cases) && x.on):=by
 unfold lT jC;cases x.on
 ·simp
 ·rw[au rfl,Bool.and_true];have e:x.cases.findIdx? (fun c=>c.1==a && c.2.1==f)=x.cases.findIdx? (El a f):=rfl;rw[e];cases x.cases.findIdx? (El a f)with
  |none=>rfl
  |some i=>simp
theorem ZT(p:α->Bool)(a:List α):-1<=jC p a/\jC p a<=a.length:=by
 unfold jC;cases h:a.findIdx? p with
 |none=>dsimp only;omega
 |some i=>rw[List.findIdx?_eq_some_iff_getElem]at h;obtain⟨b,_⟩:=h;dsimp only;omega
section
variable(w:World)
theorem UX(x:Wt)(B:Option Addr)(l d:Nat)(p:l=x.cases.length)(M:l<=100000)(o:dI w bC B x.cases)(a f:Int) :
 Calls prog 304 #[.agg #[x.on,x.az,x.seq,.slice B l d],a,f] w fun e w'=>e=.returned (.tuple #[(LM x a f),.bool (lT x a f).isSome])/\Below w w w':=by
 obtain⟨A,F,j⟩:=aZ (fun h (g:Below w w h) G=>yN h 309 #[.pointer (some ⟨w.heap.size+1,0,none⟩),.pointer (some ⟨w.heap.size+1+1,0,none⟩)] (w.heap.size+1) (w.heap.size+1+1) (.inl ⟨rfl,rfl⟩) (El a f) G B d x.cases l p (o.below g) M) (fun h I J K L k=>UU h (w.heap.size+1) (w.heap.size+1+1) a f I J K L k) (ZS x a f)
 have O:=ZT (El a f) x.cases
 unfold LM
 generalize(lT x a f).isSome=r at *
 generalize jC (El a f) x.cases=i at *
 obtain⟨N,v⟩:=aG (max i 0)
 rw[<-v]
 have C:=ae v
 clear v
 generalize x.on=n at *
 generalize x.az=t at *
 generalize x.seq=s at *
 clear o p
 have u:Below w w (((w.alloc (.cells #[n,t,s,.slice B l d] 79)).alloc (.cells #[a] 3)).alloc (.cells #[f] 3)):=ak (ak (ak (aj w) _) _) _
 have D:af (((w.alloc (.cells #[n,t,s,.slice B l d] 79)).alloc (.cells #[a] 3)).alloc (.cells #[f] 3)) w 79 _:=((af.new _ _ _).alloc _).alloc _
 have z:af (((w.alloc (.cells #[n,t,s,.slice B l d] 79)).alloc (.cells #[a] 3)).alloc (.cells #[f] 3)) (w.heap.size+1) 3 _:=(af.newAt _ _ _ aD).alloc _
 have b:af (((w.alloc (.cells #[n,t,s,.slice B l d] 79)).alloc (.cells #[a] 3)).alloc (.cells #[f] 3)) (w.heap.size+1+1) 3 _:=af.newAt _ _ _ aD
 go_enter func304,ntmps304
 go_wp2_with fail
 go_fit (A _ u ?hc)
 case hc=>exact fun k h g=>F h ((z.ai g).cell 0) ((b.ai g).cell 0) (z.ai g).lt (b.ai g).lt k
 rintro e R ⟨rfl,c⟩
 have m:=D.ai c
 obtain⟨P,-,Q⟩:=af.aM m
 have E:=ae (ai u c)
 clear c D z b m u A F
 by_cases q:0<=i
 ·have d1:decide (0<=i)=true:=eE q;have o:r=n:=by rw[j.Y];simp[q]
  subst o;have H:¬i<0:=aa;go_wp2;go_region;all_goals
   go_wp2;go_ret2;have y:N=i:=by have:=C.Y;omega
   subst y;exact⟨rfl,E.drew⟩
 ·have d1:decide (0<=i)=false:=bU q;have o:r=false:=by rw[j.Y];simp[q]
  subst o;have H:i<0:=aa;go_wp2;go_region;all_goals
   go_wp2;go_ret2;have y:N=0:=by have:=C.Y;omega
   subst y;exact⟨rfl,E.drew⟩
def jP(l:List Wt)(a e:Int)(k:Nat)(T W:Int)(f:Bool):Prop:=f=(eI l a e k).isSome/\∀t i,eI l a e k=some (t,i)->T=t/\W=i/\t<k
theorem jP.none_{l:List Wt}(h:jP l dir hd k T W ok)(p:l[k]?=some x)(f:(lT x dir hd).isSome=false):jP l dir hd (k+1) T W ok:=by
 have e:eI l dir hd (k+1)=eI l dir hd k:=by
  show(match l[k]? with|none=>_|some w=>_)=_;rw[p];dsimp only;cases d:lT x dir hd with
  |none=>rfl
  |some i=>rw[d]at f;cases f
 unfold jP;rw[e];exact⟨h.1,fun t i g=>by obtain⟨a,b,c⟩:=h.2 t i g;exact⟨a,b,aa⟩⟩
theorem jP.ab8{l:List Wt}(h:jP l dir hd k T W ok)(r:l[k]?=some x)(o:(lT x dir hd).isSome=true)(f:ok=true->∀t:Nat,T=t->x.az<(l.getD t ⟨false,0,0,[]⟩).az):jP l dir hd (k+1) k (LM x dir hd) true:=by
 obtain⟨i,d⟩:=Option.isSome_iff_exists.1 o
 have e:eI l dir hd (k+1)=some (k,i):=by
  show(match l[k]? with|none=>_|some w=>_)=_;rw[r];dsimp only;rw[d];dsimp only;cases c:eI l dir hd k with
  |none=>rfl
  |some p=>obtain⟨t,j⟩:=p;dsimp only;have a:=h.1;rw[c]at a;rw[au (f a t (h.2 t j c).1)]
 unfold jP
 rw[e]
 refine⟨rfl,fun t j b=>?_⟩
 injection b with b;injection b with a h2
 subst a h2
 exact⟨rfl,UW d,aa⟩
theorem jP.keep{l:List Wt}(h:jP l dir hd k T W true)(o:l[k]?=some x)(r:∀t:Nat,T=t->¬x.az<(l.getD t ⟨false,0,0,[]⟩).az):jP l dir hd (k+1) T W true:=by
 cases g:lT x dir hd with
 |none=>exact h.none_ o (by rw[g];rfl)
 |some i =>
  obtain⟨p,d⟩:=Option.isSome_iff_exists.1 h.1.symm;obtain⟨t,j⟩:=p;have e:eI l dir hd (k+1)=some (t,j):=by show(match l[k]? with|none=>_|some w=>_)=_;rw[o];dsimp only;rw[g];dsimp only;rw[d];dsimp only;rw[ah (r t (h.2 t j d).1)]
  unfold jP;rw[e];refine⟨rfl,fun n m f=>?_⟩;injection f with f;injection f with h1 h2
  subst h1 h2;obtain⟨a,b,c⟩:=h.2 t j d;exact⟨a,b,aa⟩
def ZU(l:List Wt)(a f:Int)(w:World)(e:Ending)(o:World):Prop:=∃T W ok,e=.returned (.tuple #[.int .i64 T,.int .i64 W,.bool ok])/\jP l a f l.length T W ok/\Below w w o
theorem kO(A:Option Addr)(c:Nat)(l:List Wt)(hn:n=l.length)(hl:n<=100000)(hr:iu w A l)(hc:∀x∈l,x.cases.length<=100000)(a r:Int) :
 Calls prog 293 #[.slice A n c,a,r] w (ZU l a r w):=by
 obtain⟨K,HC,U⟩:=aZ hn hc (fun w' (N:Below w w w') (j:Nat) (x:Wt) s=>iu.row (hr.j6 aR N) (j:=j) (x:=x) s)
 clear hn hr hc
 go_enter func293,ntmps293
 go_wp2
 go_loopw[6,7,8,15] (fun tt ww u i wr=>∃(k:Nat) (T W:Int) (b:Bool),k<=n/\i=k/\tt=T/\ww=W/\u=b/\Hid (jP l a r k T W b)/\Hid (Below w w wr)) (fun _ _ _ i _=>n-(intOf i).toNat)
 case atStart=>exact⟨0,0,0,false,aV _,rfl,rfl,rfl,rfl,⟨rfl,fun t i h=>by cases h⟩,aj w⟩
 case round =>
  obtain⟨k,T,W,u,hk,rfl,rfl,rfl,rfl,g,G⟩:=hrel;by_cases P:k<n
  ·obtain⟨x,s⟩:∃x,l[k]?=some x:=⟨_,cY (by rw[<-K.Y];exact P)⟩
   obtain⟨ad,B,d,hA,O,E,c0,c1,c2,Y⟩:=U.Y wr G k x s;obtain⟨F,H⟩:=av s (fun wy (N:Below wr wr wy)=>UX wy x B x.cases.length d rfl (by have:=HC.Y x (bX s);omega) (E.below N) a r);subst hA;clear s O E;generalize x.cases.length=X at H Y;obtain⟨I,M⟩:=aG (LM x a r);obtain⟨is,p⟩:=aG ((lT x a r).isSome);rw[<-M, <-p]at H;obtain⟨C,m⟩:=av M p.symm;clear M p;go_wp2_with fail;go_fit (H _ (ak (aj wr) _));rintro e w2 ⟨rfl,o⟩;have Z:=(af.new wr 79 #[x.on,x.az,x.seq,.slice B X d]).ai o;obtain⟨gD,-,kW⟩:=af.aM Z;have D:=ae (ai (ai G (ak (aj wr) (.cells #[x.on,x.az,x.seq,.slice B X d] 79))) o);clear o Z c0 c1 c2 Y;cases is with
   |false =>
    go_wp2_with fail;go_quiet(fail);go_wp2;go_roundw;case rel=>exact⟨k+1,T,W,u,aa,by go_num,rfl,rfl,rfl,g.none_ F m,bV D _⟩
    case measure=>simp[intOf];omega
   |true =>
    cases u with
    |false =>
     go_wp2_with fail;go_quiet(fail);go_wp2;go_roundw;case rel=>exact⟨k+1,k,I,true,aa,by go_num,rfl,rfl,rfl,C.Y▸g.ab8 F m (fun h=>by cases h),bV D _⟩
     case measure=>simp[intOf];omega
    |true =>
     obtain⟨⟨t,i0⟩,q⟩:=Option.isSome_iff_exists.1 g.1.symm;obtain⟨hT,hW,Ds⟩:=g.2 t i0 q;obtain⟨y,R⟩:∃y,l[t]?=some y:=⟨_,cY (by rw[<-K.Y];omega)⟩
     obtain⟨a6,_,_,L,_,_,_,q1,_⟩:=U.Y w2 D t y R;injection L with L
     subst L hT;have aq:=ae q;have V:Hid ((l.getD t ⟨false,0,0,[]⟩)=y):=by unfold Hid;rw[cZ,R];rfl
     clear q R hW;by_cases z:x.az<y.az
     ·have d1:decide (x.az<y.az)=true:=eE z;have S:Hid (∀f:Nat,(t:Int)=f->x.az<(l.getD f ⟨false,0,0,[]⟩).az):=by
       intro f Q;have e:f=t:=aa;rw[e,V.Y];exact z
      clear z;go_wp2_with fail;go_quiet(fail);go_wp2;go_roundw;case rel=>exact⟨k+1,k,I,true,aa,by go_num,rfl,rfl,rfl,C.Y▸g.ab8 F m (fun _=>S),bV D _⟩
      case measure=>simp[intOf];omega
     ·have d1:decide (x.az<y.az)=false:=bU z;have S:Hid (∀f:Nat,(t:Int)=f->¬x.az<(l.getD f ⟨false,0,0,[]⟩).az):=by
       intro f Q;have e:f=t:=aa;rw[e,V.Y];exact z
      clear z;go_wp2_with fail;go_quiet(fail);go_wp2;go_roundw;case rel=>exact⟨k+1,t,W,true,aa,by go_num,rfl,rfl,rfl,g.keep F (fun f Q=>Int.not_lt.2 (S f Q)),bV D _⟩
      case measure=>simp[intOf];omega
  ·have rE:k=l.length:=by have:=K.Y;omega
   have J:=ae rE;clear rE;go_wp2;refine bodyPost_ret (v:=.tuple #[T,W,u]) ?_ rfl ?_
   ·simp[results,results293,go_sem]
   ·have hf:=g.Y;rw[J.Y]at hf;exact⟨T,W,u,rfl,hf,G⟩
end
theorem LN(a:α->α->Bool)(x:α):∀(Q P:List α),(∀q∈Q,a x q=true)->ij a x (Q++P)=Q++ij a x P:=by
 intro Q;induction Q with
 |nil=>intro P _;rfl
 |cons q Q c=>intro P h;show(if a x q=true then q::ij a x (Q++P)else x::q::(Q++P))=_;rw[au (h q List.mem_cons_self),c P (fun y b=>h y (List.mem_cons_of_mem _ b))];rfl
theorem LP(a:α->α->Bool)(x:α)(P:List α)(h:∀y b,P=y::b->a x y=false):ij a x P=x::P:=by
 rcases P with _|⟨y,P⟩
 ·rfl
 ·show(if a x y=true then _ else _)=_;rw[ah (by rw[h y P rfl];decide)]
theorem G3(a:α->α->Bool)(l:List α)(x:α):dX a (l++[x])=(ij a x (dX a l).reverse).reverse:=by unfold dX;rw[List.foldl_append,List.reverse_reverse];rfl
theorem G7(a:α->α->Bool)(l P Q:List α)(x:α)(h:dX a l=P++Q)(f:∀q∈Q,a x q=true)(e:∀y b,P=b++[y]->a x y=false):dX a (l++[x])=P++x::Q:=by rw[G3,h,List.reverse_append,LN a x _ _ (fun q d=>f q (List.mem_reverse.1 d)),LP a x P.reverse (fun y b c=>e y b.reverse (by rw[<-List.reverse_reverse P,c];simp))];simp
theorem yg(a:α->α->Bool)(x:α):∀l:List α,(ij a x l).length=l.length+1:=by
 intro l;induction l with
 |nil=>rfl
 |cons y l b =>
  show(if a x y=true then y::ij a x l else x::y::l).length=_;split
  ·simp[b]
  ·simp
theorem yO(a:α->α->Bool)(x z:α):∀l:List α,z∈ij a x l->z=x\/z∈l:=by
 intro l;induction l with
 |nil=>intro h;exact .inl (List.mem_singleton.1 h)
 |cons y l b =>
  intro h;have h:z∈(if a x y=true then y::ij a x l else x::y::l):=h;split at h
  ·rcases List.mem_cons.1 h with h|h
   ·exact .inr (h▸List.mem_cons_self)
   ·rcases b h with h|h
    ·exact .inl h
    ·exact .inr (List.mem_cons_of_mem _ h)
  ·rcases List.mem_cons.1 h with h|h
   ·exact .inl h
   ·exact .inr h
theorem Bd(e:α->α->Bool):∀(l a:List α),(l.foldl (fun a x=>ij e x a) a).length=l.length+a.length/\∀z,z∈l.foldl (fun a x=>ij e x a) a->z∈l\/z∈a:=by
 intro l;induction l with
 |nil=>intro a;exact⟨aD,fun z h=>.inr h⟩
 |cons x l f =>
  intro a;obtain⟨b,c⟩:=f (ij e x a);refine⟨by rw[List.foldl_cons,b,yg];simp;omega,fun z d=>?_⟩;rcases c z d with h|h
  ·exact .inl (List.mem_cons_of_mem _ h)
  ·rcases yO e x z a h with h|h
   ·exact .inl (h▸List.mem_cons_self)
   ·exact .inr h
theorem jS(a:α->α->Bool)(l:List α):(dX a l).length=l.length:=by unfold dX;rw[List.length_reverse,(Bd a l []).1];simp
theorem ou(a:α->α->Bool)(l:List α){z:α}(h:z∈dX a l):z∈l:=by
 unfold dX at h;rcases(Bd a l []).2 z (List.mem_reverse.1 h)with h|h
 ·exact h
 ·cases h
structure LQ (w wr:World) (base g n c:Nat) (L:List Int):Prop where
 own:aJ wr base 3 .i64 (.slice (some ⟨g,0,none⟩) n c) L
 rest:∀b,b<w.heap.size->b≠g->wr.heap[b]?=w.heap[b]?
 ext:Below base w wr
 size:w.heap.size<=wr.heap.size
 low:base<=g
 lt:g<w.heap.size
theorem LQ.drew{c:Nat}(h:LQ w wr base g n c L)(q:Nat):LQ w (wr.drewN q) base g n c L:=⟨aJ.ai h.own (bV (aj wr) q),h.rest,bV h.ext q,h.size,h.low,h.lt⟩
theorem LQ.bj{c:Nat}(h:LQ w wr base g n c L)(i:Nat)(z:Int):LQ w (wr.setCell ⟨g,i,none⟩ (.int .i64 z)) base g n c (L.set i z):=⟨h.own.stored i z,fun b d a=>(dp _ _ _ _ a).trans (h.rest b d a),h.ext.setCell (p:=⟨g,i,none⟩) h.low _,by simp[World.setCell];exact h.size,h.low,h.lt⟩
structure LR {α:Type} (lt:α->α->Bool) (D:List α) (k j:Nat) (L:List α):Prop where
 ex:∃(P Q:List α) (x:α),D[k]?=some x/\Mo.dX lt (D.take k)=P++Q/\P.length=j/\(∀q∈Q,lt x q=true)/\L=P++x::(Q++D.drop (k+1))
theorem LR.start{lt:α->α->Bool}{D:List α}(a:k<D.length):LR lt D k k (dX lt (D.take k)++D.drop k):=by refine⟨dX lt (D.take k),[],D[k],cY a,aD,by rw[jS,fF];omega,aD,?_⟩;rw[List.drop_eq_getElem_cons a];rfl
theorem LR.read{lt:α->α->Bool}{D L:List α}(h:LR lt D k (j+1) L):∃x y,D[k]?=some x/\L[j+1]?=some x/\L[j]?=some y/\y∈D:=by
 obtain⟨P,Q,x,b,c,d,f,a⟩:=h.ex;have e:P[j]?=some P[j]:=cY aa;refine⟨x,P[j],b,?_,?_,?_⟩
 ·rw[a,List.getElem?_append_right aa,d,Nat.sub_self];rfl
 ·rw[a,List.getElem?_append_left aa];exact e
 ·have:P[j]∈dX lt (D.take k):=by rw[c];exact List.mem_append_left _ (List.getElem_mem _)
  exact List.mem_of_mem_take (ou lt _ this)
theorem LR.down{lt:α->α->Bool}{D L:List α}{x y:α}(h:LR lt D k (j+1) L)(p:L[j+1]?=some x)(r:L[j]?=some y)(f:lt x y=true):LR lt D k j ((L.set (j+1) y).set j x):=by
 obtain⟨P,Q,s,l,m,d,n,e⟩:=h.ex;obtain⟨a,z,rfl⟩:∃a z,P=a++[z]:=⟨P.dropLast,P.getLast (by intro i;rw[i]at d;simp at d),(List.dropLast_concat_getLast _).symm⟩
 have o:a.length=j:=by simp at d;exact d
 subst o;have b:L[a.length+1]?=some s:=by rw[e,List.getElem?_append_right aD];simp
 have c:L[a.length]?=some z:=by rw[e,List.append_assoc,List.getElem?_append_right (aS _)];simp
 rw[p]at b;rw[r]at c;injection b with b
 injection c with c
 subst b c;refine⟨a,y::Q,x,l,by rw[m];simp,rfl,fun q g=>?_,?_⟩
 ·rcases List.mem_cons.1 g with rfl|g
  ·exact f
  ·exact n q g
 ·rw[e];simp
theorem LR.stop{lt:α->α->Bool}{D L:List α}(h:LR lt D k j L)(l:j=0\/∃x y,0<j/\L[j]?=some x/\L[j-1]?=some y/\lt x y=false):L=dX lt (D.take (k+1))++D.drop (k+1):=by
 obtain⟨P,Q,x,o,p,a,q,d⟩:=h.ex;have e:D.take (k+1)=D.take k++[x]:=gy o;rw[e,G7 lt (D.take k) P Q x p q ?_,d]
 ·simp
 ·intro y i f;rcases l with l|⟨t,u,r,m,n,g⟩
  ·rw[l]at a;rw[f]at a;simp at a
  ·have s:i.length+1=j:=by rw[f]at a;simpa using a
   have b:L[j]?=some x:=by rw[d,List.getElem?_append_right aa,a,Nat.sub_self];rfl
   have c:L[j-1]?=some y:=by rw[d,f,List.append_assoc,List.getElem?_append_right aa];simp[show j-1-i.length=0 by omega]
   rw[m]at b;rw[n]at c;injection b with b
   injection c with c
   rw[<-b, <-c];exact g
def Qp(P:Program)(f:FuncId)(a:Nat)(l:Int->Int->Int)(D:List Int)(w:World)(g:Nat):Prop :=∀(c:World),(∀b,b<w.heap.size->b≠g->c.heap[b]?=w.heap[b]?)->∀x y,x∈D->y∈D->Calls P f #[.int .i64 x,.int .i64 y,.pointer (some ⟨a,0,none⟩)] c fun e w'=>e=.returned (.int .i64 (l x y))/\jy c w'
def Qq(w:World)(base g n c:Nat)(L:List Int)(e:Ending)(a:World):Prop:=e=.returned (.tuple #[])/\LQ w a base g n c L
section
variable(w:World)
theorem LS(r:Nat)(o:Int->Int->Int){c:Nat}(D:List Int)(h:LQ w w base g n c D)(U:n<=100000)(l:Qp prog 302 r o D w g) :
 Calls prog 310 #[.slice (some ⟨g,0,none⟩) n c,.int .i64 0,.int .i64 n,.func (.func 302) #[] #[.pointer (some ⟨r,0,none⟩)]] w (Qq w base g n c (dX (fun a b=>decide (o a b<0)) D)):=by
 have z:=ae l
 have HN:Hid (n=D.length):=h.own.cap.1
 have J:=ae h
 obtain⟨u,e⟩:=aG (fun a b=>decide (o a b<0))
 rw[<-e]
 have H:=ae e
 clear l h e
 go_enter func310,ntmps310
 go_wp2
 go_loopw[8] (fun i wr=>∃k:Nat,1<=k/\k<=n+1/\i=.int .i64 k/\Hid (LQ w wr base g n c (dX u (D.take k)++D.drop k))) (fun i _=>n+1-(intOf i).toNat)
 case atStart =>
  refine⟨1,aS _,aa,rfl,?_⟩;have:dX u (D.take 1)++D.drop 1=D:=by
   rcases D with _|⟨x,D⟩
   ·rfl
   ·rfl
  unfold Hid;rw[this];exact J.Y
 case round =>
  obtain⟨k,T,R,rfl,HS⟩:=hrel;by_cases e:k<n
  ·go_wp2_with fail;obtain⟨I,B⟩:∃I:World,I=wr:=⟨_,rfl⟩
   subst B;go_loopw[9] (fun j wr=>∃(m:Nat) (L:List Int),m<=k/\j=.int .i64 m/\Hid (LR u D k m L)/\Hid (LQ w wr base g n c L)) (fun j _=>(intOf j).toNat);case atStart=>exact⟨k,_,aS _,rfl,LR.start (by rw[<-HN.Y];exact e),HS⟩
   case round =>
    obtain⟨m,L,S,rfl,v,d⟩:=hrel;rcases m with _|m
    ·go_wp2_with fail;go_quiet(fail);go_wp2;go_roundw;case rel =>
      refine⟨k+1,aa,aa,by go_num,?_⟩;rw[<-v.Y.stop (.inl rfl)];exact d.drew _
     case measure=>simp[intOf];omega
    ·obtain⟨x,y,s,C,E,t⟩:=v.read;have O:=aJ.cell d.own C;have W:=aJ.cell d.own E;have V:=aJ.frozen d.own (m+1);have K:=aJ.frozen d.own m;have M:=bL d.lt d.size;have P:IntKind.i64.wrap ((m:Int)+1-1)=m:=by rw[cD _ aa];omega
     have l:=ae (z);unfold Qp at l;have N:m+1<n:=aa;obtain⟨F,G,p,q⟩:=bN C E (bX s) t;clear s C E t;have t1:(0:Int)<=(m:Int)+1:=aa;have t2:((m:Int)+1).toNat=m+1:=aa;have t3:(m:Int)+1<(n:Int):=aa;have Q:IntKind.i64.wrap (m:Int)=m:=cD _ aa;have t4:(m:Int)<(n:Int):=aa;have t5:(0:Int)<=(m:Int):=aa;by_cases f:o x y<0
     ·have d1:decide (o x y<0)=true:=eE f;have A:Hid (u x y=true):=by unfold Hid;rw[H.Y];exact d1
      clear f;go_wp2_with fail;go_quiet((go_at_call 302;exact jy.quiet (l _ (d.drew _).rest x y p q)));go_wp2;go_region;all_goals
       go_wp2;go_roundw;case rel=>exact⟨m,_,aa,rfl,v.down F G A,((d.drew _).bj (m+1) y).bj m x⟩
       case measure=>simp[intOf]
     ·have d1:decide (o x y<0)=false:=bU f;have A:Hid (u x y=false):=by unfold Hid;rw[H.Y];exact d1
      clear f;go_wp2_with fail;go_quiet((go_at_call 302;exact jy.quiet (l _ (d.drew _).rest x y p q)));go_wp2;go_roundw;case rel=>refine⟨k+1,aa,aa,by go_num,?_⟩;rw[<-v.Y.stop (.inr ⟨x,y,Nat.succ_pos m,F.Y,G.Y,A.Y⟩)];exact d.drew _
      case measure=>simp[intOf];omega
  ·exact XN
theorem G8(e:Nat)(f:Int->Int->Int){c:Nat}(D:List Int)(h:LQ w w base g n c D)(o:n<=19)(l:Qp prog 302 e f D w g) :
 Calls prog 307 #[.slice (some ⟨g,0,none⟩) n c,.int .i64 n,.func (.func 302) #[] #[.pointer (some ⟨e,0,none⟩)]] w (Qq w base g n c (dX (fun a b=>decide (f a b<0)) D)):=by
 have HI:=ae (LS w e f D h aa l)
 clear l h
 have d:¬(20:Int)<=n:=aa
 have i:¬(20:Int)<n:=aa
 go_enter func307,ntmps307
 exact ab9
theorem Qr(e:Nat)(f:Int->Int->Int){c:Nat}(D:List Int)(h:LQ w w base g n c D)(o:n<=19)(l:Qp prog 302 e f D w g) :
 Calls prog 301 #[.slice (some ⟨g,0,none⟩) n c,.func (.func 302) #[] #[.pointer (some ⟨e,0,none⟩)]] w (Qq w base g n c (dX (fun a b=>decide (f a b<0)) D)):=by
 have HI:=ae (G8 w e f D h o l)
 clear l h
 go_enter func301,ntmps301
 exact XO
theorem UY(x y:Int):Calls prog 303 #[.int .i64 x,.int .i64 y] w fun e w'=>e=.returned (.int .i64 (if x<y then -1 else if y<x then 1 else 0))/\w=w':=by
 have HZ:=ae (fun z=>(by
  go_enter func308,ntmps308;go_wp2;go_ret;exact⟨rfl,rfl⟩:Calls prog 308 #[.int .i64 z] w fun e w'=>e=.returned (.bool false)/\w=w'))
 by_cases a:x<y
 ·rw[au a];exact ZX
 ·rw[ah a];by_cases b:y<x
  ·rw[au b];exact ZX
  ·rw[ah b];exact ZX
end
def cvT(xs:List Wt)(x y:Int):Int:=if iG xs x.toNat<iG xs y.toNat then -1 else if iG xs y.toNat<iG xs x.toNat then 1 else 0
def fQ(l:List Nat):List Int:=l.map fun(i:Nat)=>(i:Int)
theorem tM(f:Nat->Nat->Bool)(e:Int->Int->Bool)(h:∀a b:Nat,e a b=f a b)(x:Nat):∀l:List Nat,ij e x (fQ l)=fQ (ij f x l):=by
 intro l;induction l with
 |nil=>rfl
 |cons y l c=>show(if e x y=true then(y:Int)::ij e x (fQ l)else(x:Int)::(y:Int)::fQ l)=fQ (if f x y=true then y::ij f x l else x::y::l);rw[h,c];split<;>rfl
theorem uV(f:Nat->Nat->Bool)(e:Int->Int->Bool)(h:∀a b:Nat,e a b=f a b)(l:List Nat):dX e (fQ l)=fQ (dX f l):=by
 have d:∀(l c:List Nat),(fQ l).foldl (fun c x=>ij e x c) (fQ c)=fQ (l.foldl (fun c x=>ij f x c) c):=by
  intro l;induction l with
  |nil=>intro c;rfl
  |cons x l g=>intro c;show(fQ l).foldl _ (ij e x (fQ c))=_;rw[tM f e h,g];rfl
 unfold dX;have:=d l [];unfold fQ at this ⊢;rw[List.map_nil]at this;rw[this,List.map_reverse]
def G9(hd:Int)(k:Cs):Bool:=k.2.1==hd
def Be(xs:List Wt)(hd:Int)(k:Nat):List Nat:=(List.range k).filter fun t=>(xs.getD t iz).on && (xs.getD t iz).cases.any (G9 hd)
theorem Qs{xs:List Wt}(a:xs[k]?=some x):Be xs hd (k+1)=if(x.on && x.cases.any (G9 hd))=true then Be xs hd k++[k]else Be xs hd k:=by
 have e:xs.getD k iz=x:=by rw[cZ,a];rfl
 unfold Be;rw[List.range_succ,List.filter_append,List.filter_cons,e];rcases h:(x.on && x.cases.any (G9 hd))with _|_
 ·rw[ah ag,ah ag];simp
 ·rw[au rfl,au rfl];rfl
theorem Ct(xs:List Wt)(hd:Int)(k:Nat):(Be xs hd k).length<=k:=by have:=List.length_filter_le (fun t=>(xs.getD t iz).on && (xs.getD t iz).cases.any (G9 hd)) (List.range k);unfold Be;simpa using this
theorem UZ{xs:List Wt}(h:t∈Be xs hd k):t<k:=List.mem_range.1 (List.mem_filter.1 h).1
theorem Qt(xs:List Wt)(hd:Int):fQ (qY xs hd)=dX (fun a b=>decide (cvT xs a b<0)) (fQ (Be xs hd xs.length)):=by
 rw[uV (fun a b=>decide (iG xs a<iG xs b)) _ (fun a b=>?_)]
 ·rfl
 ·unfold cvT;rw[gu,gu];by_cases h:iG xs a<iG xs b
  ·rw[au h];simp[h]
  ·rw[ah h];split<;>simp[h]
def OnE(xs:List Wt)(hd:Int)(w:World)(e:Ending)(a:World):Prop:=∃A c,e=.returned (.slice A (qY xs hd).length c)/\aJ a w 3 .i64 (.slice A (qY xs hd).length c) (fQ (qY xs hd))/\Below w w a
section
variable(w:World)
theorem Qu(a:Nat)(hd:Int)(l:w.cell? ⟨a,0,none⟩=some (.int .i64 hd))(f:a<w.heap.size)(A:Option Addr)(m:Nat)(xs:List Cs)(n:Nat)(o:n=xs.length)(s:dI w bC A xs)(u:n<=100000) :
 Calls prog 299 #[.slice A n m,.func (.func 300) #[] #[.pointer (some ⟨a,0,none⟩)]] w (vT (xs.any (G9 hd)) w):=by
 obtain⟨c,b⟩:=av (yN w 300 #[.pointer (some ⟨a,0,none⟩)] a 0 (.inr (.inl ⟨rfl,rfl⟩)) (G9 hd) (fun k h d=>ZQ h a hd ((d.cell (p:=⟨a,0,none⟩) f).trans l) (ltW d f) k) A m xs n o s u) (lW (G9 hd) xs)
 generalize jC (G9 hd) xs=r at c b
 clear o s l f
 go_enter func299,ntmps299
 go_wp2_with fail
 refine c.mono ?_
 rintro e i ⟨rfl,(g:Hid _)⟩
 go_wp2
 go_ret
 rw[b.Y]
 exact⟨rfl,g⟩
theorem U0(f:Nat)(A:Option Addr)(n c:Nat)(F:w.cell? ⟨f,0,none⟩=some (.slice A n c))(_:f<w.heap.size)(a b:Nat)(s:Addr)(u:A=some s)(l o:Int)(C:a<n)(E:b<n)(y:w.cell? ⟨(s.add (a*4)).block,(s.add (a*4)).off+1,none⟩=some (.int .i64 l))(z:w.cell? ⟨(s.add (b*4)).block,(s.add (b*4)).off+1,none⟩=some (.int .i64 o)) :
 Calls prog 302 #[.int .i64 a,.int .i64 b,.pointer (some ⟨f,0,none⟩)] w fun e w'=>e=.returned (.int .i64 (if l<o then -1 else if o<l then 1 else 0))/\jy w w':=by
 subst u
 have d:=ae (fun g=>UY g l o)
 generalize(if l<o then(-1:Int)else if o<l then 1 else 0)=r at *
 have t1:(0:Int)<=(a:Int):=aa
 have t2:(0:Int)<=(b:Int):=aa
 have t3:(a:Int)<(n:Int):=aa
 have t4:(b:Int)<(n:Int):=aa
 go_enter func302,ntmps302
 go_wp2_with fail
 go_quiet((go_at_call 303;exact r7 (d _)))
 go_wp2
 go_ret
 exact⟨rfl,_,rfl⟩
theorem LU(A:Option Addr)(c:Nat)(f:Value):Calls prog 310 #[.slice A 0 c,.int .i64 0,.int .i64 0,f] w fun e w'=>e=.returned (.tuple #[])/\w=w':=by go_enter func310,ntmps310;exact aca
theorem Ha(A:Option Addr)(c:Nat)(f:Value):Calls prog 307 #[.slice A 0 c,.int .i64 0,f] w fun e w'=>e=.returned (.tuple #[])/\w=w':=by
 go_enter func307,ntmps307;go_wp2;go_loopw[7,8] (fun a b wr=>a=.int .i64 0/\b=.int .i64 20/\Hid (wr=w)) (fun _ _ _=>0);case atStart=>exact⟨rfl,rfl,rfl⟩
 case round =>
  obtain⟨rfl,rfl,g⟩:=hrel;have d:=g.Y;subst d;go_wp2_with fail;go_fit (LU _ A c f);rintro e j ⟨rfl,rfl⟩;go_wp2;go_loopw[6] (fun a i=>a=.int .i64 20/\Hid (i=wr)) (fun _ _=>0);case atStart=>exact⟨rfl,rfl⟩
  case round=>obtain⟨rfl,h⟩:=hrel;have d:=h.Y;subst d;go_wp2;go_end0;exact⟨rfl,rfl⟩
theorem Qv(A:Option Addr)(c:Nat)(f:Value):Calls prog 301 #[.slice A 0 c,f] w fun e w'=>e=.returned (.tuple #[])/\w=w':=by go_enter func301,ntmps301;go_wp2_with fail;go_fit (Ha _ A c f);rintro e a ⟨rfl,rfl⟩;go_wp2;go_end0;exact⟨rfl,rfl⟩
theorem Hb(l:List Nat)(k:Nat):fQ (l++[k])=fQ l++[(k:Int)]:=by unfold fQ;simp
theorem jX(l:List Nat):(fQ l).length=l.length:=by unfold fQ;simp
theorem Qw(A:Option Addr)(c:Nat)(xs:List Wt)(hn:n=xs.length)(hl:n<=19)(hr:iu w A xs)(hc:∀x∈xs,x.cases.length<=100000)(hd:Int) :
 Calls prog 292 #[.slice A n c,.int .i64 hd] w (OnE xs hd w):=by
 obtain⟨HN,HC,HR,qu⟩:=bN hn hc (fun w' (H:Below w w w') (j:Nat) (x:Wt) l=>iu.row (hr.j6 aR H) (j:=j) (x:=x) l) (fun(j:Nat) (x:Wt) (l:xs[j]?=some x)=>iu.row hr l)
 have bM:Hid (Below w w ((w.alloc (.cells #[.slice A n c] 68)).alloc (.cells #[.int .i64 hd] 3))):=ak (ak (aj w) _) _
 have jc:Hid (af ((w.alloc (.cells #[.slice A n c] 68)).alloc (.cells #[.int .i64 hd] 3)) w 68 #[.slice A n c]):=(af.new _ _ _).alloc _
 have fY:Hid (af ((w.alloc (.cells #[.slice A n c] 68)).alloc (.cells #[.int .i64 hd] 3)) (w.heap.size+1) 3 #[.int .i64 hd]):=af.newAt _ _ _ aD
 clear hn hr hc
 go_enter func292,ntmps292
 go_wp2
 go_loopw[5,10] (fun v i wr=>∃(k:Nat) (B:Option Addr) (d:Nat),k<=n/\i=.int .i64 k/\v=.slice B (Be xs hd k).length d/\Hid (aJ wr (w.heap.size+1+1) 3 .i64 (.slice B (Be xs hd k).length d) (fQ (Be xs hd k)))/\Hid (Below w w wr)/\Hid (af wr w 68 #[.slice A n c])/\Hid (af wr (w.heap.size+1) 3 #[.int .i64 hd])) (fun _ i _=>n-(intOf i).toNat)
 case atStart=>exact⟨0,none,0,aV _,rfl,rfl,aJ.nil _ _ _ _,bM,jc,fY⟩
 case round =>
  obtain⟨k,B,d,hk,rfl,rfl,u,r,I,J⟩:=hrel;obtain⟨a7,-,b8⟩:=af.aM I;by_cases bz:k<n
  ·obtain⟨x,l⟩:∃x,xs[k]?=some x:=⟨_,cY (by rw[<-HN.Y];exact bz)⟩
   obtain⟨m,D,dd,hA,a8,R,c0,c1,c2,c3⟩:=HR.Y wr r k x l;have HX:=ae l;have xc:x.cases.length<=100000:=HC.Y x (bX l);obtain⟨HF,O⟩:=av (Qs (hd:=hd) l) (fun(wy:World) (H:Below wr wr wy)=>Qu wy (w.heap.size+1) hd ((H.cell (p:=⟨w.heap.size+1,0,none⟩) J.lt).trans (J.cell 0)) (ltW H J.lt) D dd x.cases _ rfl (R.below H) xc);subst hA;clear l a8 R;generalize x.cases.length=bl at O c3;clear xc;have Y:=Ct xs hd k;obtain⟨fl,ZY⟩:=aG ((Be xs hd k).length);rw[<-ZY]at u Y ⊢;have s:=ae ZY;clear ZY;have bY:=r.size;rcases E:x.on with _|_
   ·rw[E]at c0;have C:Hid (Be xs hd (k+1)=Be xs hd k):=by unfold Hid;rw[HF.Y,E];rfl
    clear E;go_wp2;go_roundw;case rel=>refine⟨k+1,B,d,aa,by go_num,by rw[C.Y,s.Y],?_,ak r _,I.alloc _,J.alloc _⟩;rw[C.Y, <-s.Y];exact aJ.alloc u _
    case measure=>simp[intOf];omega
   ·rw[E]at c0;rcases f:x.cases.any (G9 hd)with _|_
    ·rw[f]at O;have C:Hid (Be xs hd (k+1)=Be xs hd k):=by unfold Hid;rw[HF.Y,E,f];rfl
     clear E f;go_wp2_with fail;go_fit (O _ (ak (aj wr) _));rintro e w2 ⟨rfl,o⟩;have q:=ae (ai (ak (aj wr) (.cells #[.bool true,.int .i64 x.az,.int .i64 x.seq,.slice D bl dd] 79)) o);clear o;go_wp2;go_roundw;case rel=>refine⟨k+1,B,d,aa,by go_num,by rw[C.Y,s.Y],?_,ai r q,I.ai q,J.ai q⟩;rw[C.Y, <-s.Y];exact aJ.ai u q
     case measure=>simp[intOf];omega
    ·rw[f]at O;have C:Hid (Be xs hd (k+1)=Be xs hd k++[k]):=by unfold Hid;rw[HF.Y,E,f];rfl
     clear E f;go_wp2_with fail;go_fit (O _ (ak (aj wr) _));rintro e w2 ⟨rfl,o⟩;have q:=ae (ai (ak (aj wr) (.cells #[.bool true,.int .i64 x.az,.int .i64 x.seq,.slice D bl dd] 79)) o);clear o c0 c1 c2 c3 a7;have BN:=q.size;have ft:=ae (aJ.ai u q);go_wp2_with(at_builtin;refine cH _ rfl _ _ 22 rfl (w.heap.size+1+1) 3 .i64 underlying22 fS _ (fQ (Be xs hd k)) rfl (aJ.alloc ft _) (some ⟨w2,0,none⟩) 1 1 [(k:Int)] rfl rfl (bJ.one _ .i64 _ _) ?c4 ?c6 ?_)
     case c4=>rw[jX, <-s.Y];simp;omega
     case c6=>simp;omega
     intro v4 w4 Z bg b5;clear b5;rw[<-Hb]at Z;obtain⟨A4,c4,X⟩:=Z.shape;rw[jX,eW,gL, <-s.Y]at X;subst X;have nR:=aJ.alloc ft (.cells #[.int .i64 k] 3);have G:=(I.ai q).alloc (.cells #[.int .i64 k] 3);have U:=(J.ai q).alloc (.cells #[.int .i64 k] 3);have S:=G.grown bg (aY nR G ag);have V:=U.grown bg (fun he=>by have:=(aX nR he.symm).1;omega);have T:=aJ.bh nR (ak (ai r q) (.cells #[.int .i64 k] 3)) bg (by simp;omega) (Nat.le_add_right w 2);obtain⟨lF,aq,XQ,gC⟩:=bN Z S V T;clear Z bg nR G U S V T;go_wp2;go_roundw;case rel =>
      refine⟨k+1,A4,c4,aa,by go_num,?_,?_,gC,aq,XQ⟩
      ·rw[C.Y,eW,gL, <-s.Y]
      ·rw[C.Y,eW,gL, <-s.Y];exact lF.Y
     case measure=>simp[intOf];omega
  ·have rE:k=xs.length:=by have:=HN.Y;omega
   have h:=ae (Qt xs hd);rw[<-rE]at h;have Y:=Ct xs hd k;have M:=ae (fun t ht=>UZ (xs:=xs) (hd:=hd) (k:=k) (t:=t) ht);have F:Hid (k=n):=by unfold Hid;omega
   clear rE;generalize Be xs hd k=L at u h Y M ⊢;rcases L with _|⟨z,L⟩
   ·go_wp2_with fail;go_fit (Qv _ B d _);rintro e w1 ⟨rfl,rfl⟩;go_wp2_with fail;have Q:(qY xs hd).length=0:=by rw[<-jX,h.Y];rfl
    have h1:fQ (qY xs hd)=[]:=h.Y;go_ret;refine⟨B,d,by rw[Q];rfl,?_,r⟩;rw[Q,h1];exact aJ.bD u aa
   ·obtain⟨g,c',hv,bo,pS⟩:=u.form (by unfold fQ;simp);injection hv with e1 e2 e3
    subst e1 e3;clear e2;have hS:LQ wr wr (w.heap.size+1+1) g (L.length+1) d (fQ (z::L)):=⟨u,fun _ _ _=>rfl,Below.refl _ _,aS _,bo,pS⟩
    have bY:=r.size;have N:Qp prog 302 w (cvT xs) (fQ (z::L)) wr g:=by
     intro wx hw x y l hy;have P:∀x∈fQ (z::L),∃a:Nat,x=a/\a<n/\∃m,A=some m/\wx.cell? ⟨(m.add (a*4)).block,(m.add (a*4)).off+1,none⟩=some (.int .i64 (iG xs a)):=by
      intro x l;obtain⟨a,ha,rfl⟩:=List.mem_map.1 l;have b7:=M.Y a ha;obtain⟨xa,U3⟩:∃xa,xs[a]?=some xa:=⟨_,cY (by have:=HN.Y;have:=F.Y;omega)⟩
      obtain⟨m,_,_,K,_,_,_,q1,_⟩:=qu.Y a _ U3;refine⟨a,rfl,by have:=F.Y;omega,m,K,?_⟩;have LV:=bb q1;have tI:(m.add (a*4)).block<w.heap.size:=LV;have ht:iG xs a=xa.az:=by unfold iG;rw[cZ,U3];rfl
      rw[ht, <-q1, <-r.Y.cell (p:=⟨(m.add (a*4)).block,(m.add (a*4)).off+1,none⟩) LV];unfold World.cell?;dsimp only;rw[hw _ aa aa]
     obtain⟨a,rfl,ha,m,hA,ca⟩:=P x l;obtain⟨b,rfl,H,b6,K,cb⟩:=P y hy;rw[hA]at K;injection K with K
     subst K;have z8:wx.cell? ⟨w,0,none⟩=some (.slice A n c):=by have:=I.cell 0;rw[<-show wr.cell? ⟨w,0,none⟩=some (.slice A n c)from this];unfold World.cell?;dsimp only;rw[hw _ I.Y.lt aa]
     have xc:w.heap.size<wx.heap.size:=by have:=bb z8;exact this
     have:=U0 wx w A n c z8 xc a b m hA (iG xs a) (iG xs b) ha H ca cb;unfold cvT;rw[gu,gu];exact this
    have a6:=ae (Qr wr w (cvT xs) (fQ (z::L)) hS (by have:=F.Y;simp at Y;omega) N);clear hS N;go_wp2_with fail;refine a6.mono ?_;rintro e w1 ⟨rfl,(HS:Hid _)⟩;go_wp2;go_ret;have Q:(qY xs hd).length=(z::L).length:=by rw[<-jX,h.Y,jS,jX]
    have W:=HS.own;rw[<-h.Y]at W;refine⟨some ⟨g,0,none⟩,d,by rw[Q];rfl,?_,r.trans (HS.ext.mono aa)⟩;rw[Q];exact aJ.bD W aa
end
def nz(x:Mo.Told):List Value:=[x.th,x.res.seq,x.res.cs,x.res.code,x.res.value]
theorem Bf(x:Mo.Told):(nz x).length=5:=rfl
theorem LW(x:Mo.Told):∀u∈nz x,u.oneCell'=true:=by intro u a;simp[nz]at a;rcases a with rfl|rfl|rfl|rfl|rfl<;>rfl
def ZZ(x:Ch)(w:World)(v:Value)(a:World):Prop:=∃B d,v=.agg #[x.gen,x.cap,x.used,x.closed,.slice B x.buf.length d]/\aJ a w 3 .i64 (.slice B x.buf.length d) x.buf/\Below w w a
def qG(g:p9)(n:Nat)(w:World)(e:Ending)(a:World):Prop:=∃B d A c D dd,e=.returned (.tuple #[.agg #[g.c.gen,g.c.cap,g.c.used,g.c.closed,.slice B g.c.buf.length d],.slice A n c,.agg #[g.r.seq,g.r.cs,g.r.code,g.r.value],.slice D g.told.length dd]) /\
 bJ a .i64 B g.c.buf/\(∀b,B=some b->g.c.buf≠[]->Ty a 3 b.block)/\g.c.buf.length<=d/\lB a w (.slice A n c) g.l/\dI a nz D g.told/\(∀b,D=some b->g.told≠[]->Ty a 229 b.block)/\g.told.length<=dd/\Below w w a
theorem xA{c:Nat}{e:TypeId}{k:IntKind}{xs:List Int}{b:Addr}(h:aJ w base e k (.slice (some b) n c) xs):Ty w e b.block:=by exact XK
theorem py{l:List Wt}(h:eI l dir hd k=some (t,i)):∃x,l[t]?=some x/\lT x dir hd=some i:=by
 induction k generalizing t i with
 |zero=>cases h
 |succ k a =>
  unfold eI at h;split at h
  ·exact a h
  ·rename_i x c;split at h
   ·exact a h
   ·rename_i e b;split at h
    ·injection h with h;injection h with h1 h2;subst h1 h2;exact⟨x,c,b⟩
    ·split at h
     ·injection h with h;injection h with h1 h2;subst h1 h2;exact⟨x,c,b⟩
     ·rename_i g f d _;injection h with h;injection h with h1 h2
      subst h1 h2;exact a d
theorem JW(h:lT x dir hd=some i):x.on=true/\∃k,x.cases[i]?=some k/\k.1=dir/\k.2.1=hd:=by
 unfold lT at h;split at h
 ·rename_i c;rw[List.findIdx?_eq_some_iff_getElem]at h;obtain⟨a,b,_⟩:=h;refine⟨c,_,cY a,?_⟩;simpa using b
 ·cases h
section
variable(w:World)
theorem mq(x:Ch)(B:Option Addr)(a d:Nat)(l:a=x.buf.length)(Q:a<=100000)(o:bJ w .i64 B x.buf) :
 Calls prog 273 #[.agg #[x.gen,x.cap,x.used,x.closed,.slice B a d]] w fun e w'=>∃v,e=.returned v/\ZZ x w v w':=by
 obtain⟨H,P⟩:=av (fun q (G:Below w w q)=>iE q B d x.buf l aa (o.below G)) l
 unfold ZZ
 rw[<-l]
 clear l o
 have h:Hid (Below w w ((w.alloc (tz x B a d)).alloc rB)):=ak (ak (aj w) _) _
 have I:Hid (af ((w.alloc (tz x B a d)).alloc rB) w 83 #[x.gen,x.cap,x.used,x.closed,.slice B a d]):=(af.new _ _ _).alloc _
 have L:Hid (af ((w.alloc (tz x B a d)).alloc rB) (w.heap.size+1) 83 #[oZ,oZ,false,false,oN]):=(af.newAt _ _ _ aD)
 go_enter func273,ntmps273
 go_wp2_with fail
 go_fit (H _ h)
 rintro e n ⟨c,d1,rfl,s,m,f⟩
 obtain⟨t,g,k,J⟩:=bN (ai h f) (I.ai f) (L.ai f) (aJ.bD m h.size)
 clear m f s
 obtain⟨D,j,-⟩:=af.aM g
 have K:=af.lt g
 obtain⟨z,u,-⟩:=af.aM k
 have y:=af.lt k
 go_wp2_with fail
 have E:=g.bj 4 (.slice c a d1)
 have r:=k.bO (p:=⟨w,4,none⟩) (by show w.heap.size+1≠w;omega) (.slice c a d1)
 have O:aJ _ w 3 .i64 (.slice c a d1) x.buf:=bK J g ag 4 (.slice c a d1)
 have N:=t.setCell (p:=⟨w,4,none⟩) (aS _) (.slice c a d1)
 have F:=ja r x.gen x.cap x.used x.closed (.slice c a d1)
 have M:=fun i=>af.cell F i
 have A:aJ _ w 3 .i64 (.slice c a d1) x.buf:=dZ O r ag x.gen x.cap x.used x.closed (.slice c a d1)
 have C:=fL N (b:=w.heap.size+1) (cj _) x.gen x.cap x.used x.closed (.slice c a d1)
 change bodyPost _ _ _ _ _ (iI (n.setCell ⟨w,4,none⟩ (.slice c a d1)) (w.heap.size+1) x.gen x.cap x.used x.closed (.slice c a d1))
 generalize iI (n.setCell ⟨w,4,none⟩ (.slice c a d1)) (w.heap.size+1) x.gen x.cap x.used x.closed (.slice c a d1)=R at *
 clear D j K z u y
 refine bodyPost_ret (v:=.agg #[x.gen,x.cap,x.used,x.closed,.slice c a d1]) ?_ rfl ?_
 ·simp[results,results273,go_sem,M]
 ·exact⟨_,rfl,c,d1,rfl,A,C⟩
theorem vq(A:Option Addr)(c:Nat)(xs:List Wt)(o:n=xs.length)(r:iu w A xs)(a:xs[t]?=some x)(l co f:Int) :
 Calls prog 298 #[.slice A n c,t,l,co,f] w fun e w'=>e=.returned (.agg #[t,x.seq,l,co,f])/\Below w w w':=by
 obtain⟨k,B,d,i,_,_,b,g,m,h⟩:=iu.row (r.j6 aR (ak (aj w) (.cells #[oZ,oZ,oZ,oZ,oZ] 229))) a
 have j:t<n:=by rw[o];exact dv a
 subst i
 clear o r a b g h
 go_enter func298,ntmps298
 go_wp2
 refine bodyPost_ret (v:=.agg #[t,x.seq,l,co,f]) ?_ rfl ?_
 ·simp[results,results298,go_sem]
 ·exact⟨rfl,ak (aj w) _⟩
theorem rj{a:List Wt}(h:jP a dir hd a.length T W ok):ok=(dW a dir hd).isSome:=h.1
theorem yP(x:Ch)(B:Option Addr)(l d:Nat)(o:l=x.buf.length)(y:x.used=true)(A:Option Addr)(c:Nat)(a:List Wt)(s:n=a.length)(z:n<=100000)(u:iu w A a)(p:∀x∈a,x.cases.length<=100000)(f:Int) :
 Calls prog 286 #[.agg #[x.gen,x.cap,x.used,x.closed,.slice B l d],f,.slice A n c,.int .i64 1] w fun e w'=>e=.returned (dt x f a 1)/\Below w w w':=by
 have h:=ae (fun g (i:Below w w g)=>kO g A c a s z (u.j6 aR i) p 2 f)
 have HR:Hid (dt x f a 1=(x.closed || (dW a 2 f).isSome || decide ((l:Int)<x.cap))):=by unfold Hid dt;rw[y,o];simp
 have b:Hid (Below w w (w.alloc (tz x B l d))):=ak (aj w) _
 have j:Hid (af (w.alloc (tz x B l d)) w 83 #[x.gen,x.cap,x.used,x.closed,.slice B l d]):=af.new _ _ _
 generalize dt x f a 1=r at *
 clear o s u p
 obtain⟨q,m,t,cl,k⟩:=x
 dsimp only at *
 subst y
 go_enter func286,ntmps286
 go_wp2_with fail
 go_fit (h _ b)
 rintro e v ⟨T,W,ok,rfl,hf,hb1⟩
 obtain⟨br,fY⟩:=av (ai b hb1) (j.ai hb1)
 have NG:Hid (ok=(dW a 2 f).isSome):=rj hf
 exact ace
theorem yQ(x:Ch)(B:Option Addr)(l d:Nat)(o:l=x.buf.length)(y:x.used=true)(A:Option Addr)(c:Nat)(a:List Wt)(s:n=a.length)(z:n<=100000)(u:iu w A a)(p:∀x∈a,x.cases.length<=100000)(f:Int) :
 Calls prog 286 #[.agg #[x.gen,x.cap,x.used,x.closed,.slice B l d],f,.slice A n c,.int .i64 2] w fun e w'=>e=.returned (dt x f a 2)/\Below w w w':=by
 have h:=ae (fun g (i:Below w w g)=>kO g A c a s z (u.j6 aR i) p 1 f)
 have HR:Hid (dt x f a 2=(x.closed || (dW a 1 f).isSome || decide ((0:Int)<l))):=by unfold Hid dt;rw[y,o];simp
 have b:Hid (Below w w (w.alloc (tz x B l d))):=ak (aj w) _
 have j:Hid (af (w.alloc (tz x B l d)) w 83 #[x.gen,x.cap,x.used,x.closed,.slice B l d]):=af.new _ _ _
 generalize dt x f a 2=r at *
 clear o s u p
 obtain⟨q,m,t,cl,k⟩:=x
 dsimp only at *
 subst y
 go_enter func286,ntmps286
 go_wp2_with fail
 go_fit (h _ b)
 rintro e v ⟨T,W,ok,rfl,hf,hb1⟩
 obtain⟨br,fY⟩:=av (ai b hb1) (j.ai hb1)
 have NG:Hid (ok=(dW a 1 f).isSome):=rj hf
 exact ace
end
theorem qG.mk'{g:p9}{c f:Nat}(l:bl=g.c.buf.length)(o:f=g.told.length)(a:aJ w' w 3 .i64 (.slice B bl d) g.c.buf)(u:lB w' w (.slice A n c) g.l)(s:dI w' nz D g.told)(e:∀b,D=some b->g.told≠[]->Ty w' 229 b.block)(y:g.told.length<=dd)(r:Below w w w') :
 qG g n w (.returned (.tuple #[.agg #[g.c.gen,g.c.cap,g.c.used,g.c.closed,.slice B bl d],.slice A n c,.agg #[g.r.seq,g.r.cs,g.r.code,g.r.value],.slice D f dd])) w':=by
 subst l o
 exact⟨B,d,A,c,D,dd,rfl,a.pP.2,fun b h _=>by subst h;exact xA a,a.cap.2,u,s,e,y,r⟩
theorem Qx{e:TypeId}{l:List Value}(h:w.ownsRow base e m v n l)(o:∀b,v.ownBlock=some b->w'.heap[b]?=w.heap[b]?):w'.ownsRow base e m v n l:=by
 obtain⟨i,d⟩:=h;refine⟨i,?_⟩;rcases d with d|⟨f,a,c,g,j,k,r⟩
 ·exact .inl d
 ·exact .inr ⟨f,a,c,g,j,by rw[o f (by rw[g];rfl)];exact k,r⟩
structure pY (w w':World) (q r:Nat) (t1 t2:TypeId):Prop where
 hq:∃ys,af w q t1 ys
 hr:∃ys,af w r t2 ys
 rest:∀b,b≠q->b≠r->w'.heap[b]?=w.heap[b]?
 size:w'.heap.size=w.heap.size
theorem pY.mk'{r:Nat}{e v1 v2:List Value}(f:af w q t1 c1.toArray)(l:af w r t2 e.toArray)(a:q≠r)(o:c1.length=v1.length)(s:e.length=v2.length) :
 pY w (aw (aw w q 0 v1) r 0 v2) q r t1 t2/\af (aw (aw w q 0 v1) r 0 v2) q t1 v1.toArray/\af (aw (aw w q 0 v1) r 0 v2) r t2 v2.toArray :=
 ⟨⟨⟨_,f⟩,⟨_,l⟩,fun b hq hr=>(aO hr v2 0).trans (aO hq v1 0),by rw[bH,bH]⟩,ba (aQ f o) a v2 0,aQ (ba l (fun h=>a h.symm) v1 0) s⟩
section
variable{w w':World} {q r:Nat} {t1 t2:TypeId}
theorem pY.own(T:pY w w' q r t1 t2){e:TypeId}{xs:List Value}(h:w.ownsRow base e m v n xs)(h1:e≠t1)(h2:e≠t2):w'.ownsRow base e m v n xs:=by obtain⟨ys,hq⟩:=T.hq;obtain⟨d,hr⟩:=T.hr;exact Qx h fun b c=>T.rest b (fun a=>aY h hq h1 (by rw[c,a])) (fun a=>aY h hr h2 (by rw[c,a]))
theorem pY.ty(T:pY w w' q r t1 t2){e:TypeId}(h:Ty w e b)(f:e≠t1)(l:e≠t2):Ty w' e b/\w'.heap[b]?=w.heap[b]?:=by obtain⟨ys,hq⟩:=T.hq;obtain⟨i,hr⟩:=T.hr;obtain⟨g,d,h⟩:=h;unfold af at hq hr;have c:w'.heap[b]?=w.heap[b]?:=T.rest b (fun a=>by subst a;rw[hq]at h;injection h with h;injection h with _ h;exact f h.symm) (fun a=>by subst a;rw[hr]at h;injection h with h;injection h with _ h;exact l h.symm);exact⟨⟨g,d,c.trans h⟩,c⟩
theorem pY.j6(T:pY w w' q r t1 t2)(e:t1≠3/\t1≠110)(l:t2≠3/\t2≠110)(h:iU w b):iU w' b/\w'.heap[b]?=w.heap[b]?:=by
 rcases h with h|h
 ·obtain⟨a,b⟩:=T.ty h e.1.symm l.1.symm;exact⟨.inl a,b⟩
 ·obtain⟨a,b⟩:=T.ty h e.2.symm l.2.symm;exact⟨.inr a,b⟩
theorem pY.yR{P:sU α}{e:TypeId}(gd:Good P)(T:pY w w' q r t1 t2)(h:aI e m P w base (iU w) v xs)(o:e≠t1)(s:e≠t2)(f:t1≠3/\t1≠110)(l:t2≠3/\t2≠110):aI e m P w' base (iU w') v xs:=by obtain⟨ys,hq⟩:=T.hq;obtain⟨i,hr⟩:=T.hr;exact(h.move gd (fun b a=>(T.j6 f l a).2) (fun g d=>T.rest g (fun c=>h.other hq o g d c) (fun c=>h.other hr s g d c))).mono gd (fun b a=>(T.j6 f l a).1)
theorem pY.below(_:pY w w' q r t1 t2){B:Nat}{a:World}{v1 v2:List Value}(e:w'=aw (aw w q 0 v1) r 0 v2)(h:Below B a w)(hq:B<=q)(hr:B<=r):Below B a w':=by rw[e];exact ax hr _ _ _ (ax hq _ _ _ h)
end
section
variable(w:World)
theorem Qy(x:Ch)(B:Option Addr)(a d:Nat)(H:a=x.buf.length)(SY:a<=90000)(a6:bJ w .i64 B x.buf)(A:Option Addr)(c:Nat)(l:List Wt)(U:n=l.length)(hl:n<=90000)(V:iu w A l)(hc:∀x∈l,x.cases.length<=90000)(K:Int)(f:Int) :
 Calls prog 305 #[.agg #[x.gen,x.cap,x.used,x.closed,.slice B a d],K,.slice A n c,f] w (qG (mD x K l f) n w):=by
 obtain⟨rH,oy,pH,SZ,bo,GY⟩:=cT (fun o (k:Below w w o)=>mq o x B a d H (by omega) (a6.below k)) (fun o (k:Below w w o)=>kO o A c l U (by omega) (V.j6 aR k) (fun x F=>bq (hc x F) (by omega)) 2 K) (fun o (k:Below w w o)=>ji o A c l U (by omega) (V.j6 aR k) (fun x F=>bq (hc x F) (by omega))) (fun o (k:Below w w o) (j:Nat) (x:Wt) F kK=>ua o A c l U (by omega) (V.j6 aR k) (fun x F=>bq (hc x F) (by omega)) (j:=j) (x:=x) F kK) (fun o (k:Below w w o) (t:Nat) (x:Wt) F (wh co f:Int)=>vq o A c l U (V.j6 aR k) (t:=t) (x:=x) F wh co f) (fun o (k:Below w w o) (t:Nat) (x:Wt) F=>iu.row (V.j6 aR k) (j:=t) (x:=x) F)
 obtain⟨lD,HN⟩:=av H U
 unfold ZZ at rH
 rw[<-H]at rH
 clear H a6 U V hc
 have bM:Hid (Below w w (((w.alloc (tz x B a d)).alloc rB).alloc jo)):=ak (ak (ak (aj w) _) _) _
 have l7:Hid (af (((w.alloc (tz x B a d)).alloc rB).alloc jo) (w.heap.size+1) 83 #[oZ,oZ,false,false,oN]):=(af.newAt _ _ _ (by simp)).alloc _
 have iV:Hid (af (((w.alloc (tz x B a d)).alloc rB).alloc jo) (w.heap.size+1+1) 48 #[oZ,oZ,oZ,oZ]):=(af.newAt _ _ _ (by simp))
 go_enter func305,ntmps305
 go_wp2_with fail
 (with_reducible go_fit (rH.Y _ bM.Y))
 rintro e G ⟨v,rfl,m,d1,rfl,fM,E⟩
 have KN:=l7.Y.ai E
 have LV:=iV.Y.lt
 have Ee:w.heap.size+1+1<G.heap.size:=(iV.Y.ai E).lt
 obtain⟨br,jw,iT,kL,fY⟩:=dh (ak (ai bM.Y E) (tz x m a d1)) (KN.alloc (tz x m a d1)) ((iV.Y.ai E).alloc (tz x m a d1)) (aJ.alloc (aJ.bD fM bM.Y.size) (tz x m a d1)) (af.new G 83 #[x.gen,x.cap,x.used,x.closed,.slice m a d1])
 clear fM E KN l7 iV bM rH LV
 go_wp2_with fail
 (with_reducible go_fit (oy.Y _ br.Y))
 rintro e w2 ⟨T,W,ok,rfl,(HF:Hid _),D⟩
 obtain⟨L,iC,jh,P,Z⟩:=dh (ai br.Y D) (jw.Y.ai D) (iT.Y.ai D) (fY.Y.ai D) (aJ.ai kL.Y D)
 clear D oy jw iT br fY kL
 rcases ok with _|_
 ·have HG:Hid (mD x K l f=⟨{x with buf:=x.buf++[f]},l,dD,[]⟩):=by
   have:dW l 2 K=none:=by
    have:=HF.Y.1;cases hh:eI l 2 K l.length with
    |none=>exact hh
    |some p=>rw[hh]at this;cases this
   unfold Hid mD;rw[this]
  obtain⟨gD,b7,-⟩:=af.aM P.Y
  have kW:=af.lt P.Y
  go_wp2_with(at_builtin;refine cH _ rfl _ _ 22 rfl w 3 .i64 underlying22 fS _ x.buf rfl (aJ.alloc Z.Y _) w2 1 1 [f] rfl rfl (bJ.one _ .i64 _ _) ?c4 ?c6 ?_)
  case c4=>rw[<-lD.Y];simp;omega
  case c6=>have:=L.Y.size;simp;omega
  intro v4 u bR X cd
  clear cd
  obtain⟨z,C,a7⟩:=bR.shape
  rw[eW,gL, <-lD.Y]at a7
  subst a7
  have nR:=aJ.alloc Z.Y (.cells #[f] 3)
  have M:=P.Y.alloc (.cells #[f] 3)
  have tW:=iC.Y.alloc (.cells #[f] 3)
  have N:=jh.Y.alloc (.cells #[f] 3)
  have r:=M.grown X (aY nR M (by decide))
  have Q:=tW.grown X (aY nR tW (by decide))
  have s:=N.grown X (aY nR N (by decide))
  have h:=aJ.bh nR (ak L.Y (.cells #[f] 3)) X (by have:=L.Y.size;simp;omega) (aS _)
  obtain⟨Aa,Ab,Qz⟩:=af.aM r
  obtain⟨Cv,m8,lC,gC,lF⟩:=dh r Q s h bR
  clear bR X nR M tW N r Q s h gD b7 kW
  go_wp2_with fail
  have pJ:=Cv.Y.bj 4 (.slice z (a+1) C)
  have kC:=m8.Y.bO (p:=⟨G,4,none⟩) (by show w.heap.size+1≠G;omega) (.slice z (a+1) C)
  have SV:=lC.Y.bO (p:=⟨G,4,none⟩) (by show w.heap.size+1+1≠G;omega) (.slice z (a+1) C)
  have Fp:aJ _ w 3 .i64 (.slice z (a+1) C) (x.buf++[f]):=bK lF.Y Cv.Y (by decide) 4 (.slice z (a+1) C)
  have ei:=gC.Y.setCell (p:=⟨G,4,none⟩) (by show w.heap.size<=G.heap.size;omega) (.slice z (a+1) C)
  generalize Bg:u.setCell ⟨G,4,none⟩ (.slice z (a+1) C)=w5 at *
  have je:=ae ei.drew;have rI:Hid (af w5.drew _ _ _):=kC;have jV:Hid (af w5.drew _ _ _):=SV;have zG:Hid (af w5.drew _ _ _):=pJ;have rK:=ae (aJ.ai Fp (aj w5).drew)
  have Hc:=fun i=>af.cell pJ i
  have QA:=af.lt pJ
  clear Bg pJ kC SV Fp ei Aa Ab Qz Cv m8 lC gC lF P iC jh L Z
  go_region_law(first
   |(go_simp;go_at_call 272;(with_reducible go_fit (pH.Y _ je.Y));rintro e w6 ⟨v,rfl,A6,c6,rfl,NA,iF⟩;have U5:=zG.Y.ai iF;have NH:=rI.Y.ai iF;have NI:=jV.Y.ai iF;have QB:=fun i=>af.cell U5 i;have Z0:=fun i=>af.cell NH i;have Z1:=fun i=>af.free NH i;have Z2:=fun i=>af.cell NI i;have Z3:=fun i=>af.free NI i;have QC:=U5.lt;have Z4:=NH.lt;have Z5:=NI.lt;go_wp2_with fail))
  all_goals
   go_wp2_with fail;have bz:=ai je.Y iF;have bY:=aJ.ai rK.Y iF;have b5:=NA.bD (base':=w.heap.size) je.Y.size;clear QB Z0 Z1 Z2 Z3 QC Z4 Z5 Hc QA;obtain⟨J,Y,S⟩:=pY.mk' (v1:=[x.gen,x.cap,x.used,x.closed,.slice z (a+1) C]) (v2:=[oZ,oZ,oZ,oZ]) NH NI (by omega) rfl rfl;have nc:=J.own bY (by decide) (by decide);have LX:=J.yR aR b5 (by decide) (by decide) (by decide) (by decide);have gv:=J.below rfl bz (by omega) (by omega);change bodyPost _ _ _ _ _ (aw (aw w6 (w.heap.size+1) 0 [x.gen,x.cap,x.used,x.closed,.slice z (a+1) C]) (w.heap.size+1+1) 0 [oZ,oZ,oZ,oZ]);generalize aw (aw w6 (w.heap.size+1) 0 [x.gen,x.cap,x.used,x.closed,.slice z (a+1) C]) (w.heap.size+1+1) 0 [oZ,oZ,oZ,oZ]=wz at *;have nS:=fun i=>af.cell Y i;have qH:=fun i=>af.cell S i;refine bodyPost_ret (v:=.tuple #[.agg #[x.gen,x.cap,x.used,x.closed,.slice z (a+1) C],.slice A6 n c6,.agg #[oZ,oZ,oZ,oZ],oN]) ?_ rfl ?_
   ·simp[results,results305,go_sem,nS,qH]
   ·rw[HG.Y];exact qG.mk' (w:=w) (g:=⟨{x with buf:=x.buf++[f]},l,dD,[]⟩) (by have:=lD.Y;simp;omega) (rfl) nc LX (Rd.nil _ _) (fun b k=>by cases k) (aS _) gv
 ·obtain⟨⟨t,i⟩,I⟩:=Option.isSome_iff_exists.1 HF.Y.1.symm;obtain⟨hT,hW,_⟩:=HF.Y.2 t i I;obtain⟨y,hy,a8⟩:=py I;have kK:=(JW a8).1;have HG:Hid (mD x K l f=⟨x,gY l t,dD,[⟨t,⟨y.seq,i,0,f⟩⟩]⟩):=by
   have h1:dW l 2 K=some (t,i):=I;have h2:(l.getD t iz).seq=y.seq:=by rw[cZ,hy];rfl
   unfold Hid mD;rw[h1];dsimp only;unfold iX;rw[h2]
  subst hT hW;obtain⟨HE,HY,JX⟩:=aZ (bo.Y w2 L.Y t y hy i 0 f) hy kK;clear I hy a8 kK;go_wp2_with fail;(with_reducible go_fit HE.Y);rintro e w3 ⟨rfl,q⟩;obtain⟨cM,jT,fZ,ub,jr,pV⟩:=cT (ak (ai L.Y q) (.cells #[t,y.seq,i,oZ,f] 229)) ((iC.Y.ai q).alloc (.cells #[t,y.seq,i,oZ,f] 229)) ((jh.Y.ai q).alloc (.cells #[t,y.seq,i,oZ,f] 229)) ((P.Y.ai q).alloc (.cells #[t,y.seq,i,oZ,f] 229)) (aJ.alloc (aJ.ai Z.Y q) (.cells #[t,y.seq,i,oZ,f] 229)) (af.new w3 229 #[t,y.seq,i,oZ,f]);have Ox:G.heap.size<w3.heap.size:=(P.Y.ai q).lt;clear q;have HC:=ae (SZ.Y _ cM.Y t y HY.Y JX.Y);go_wp2_with fail;(with_reducible go_fit HC.Y);rintro e u ⟨v,rfl,z,C,rfl,z7,h⟩;have Q:=jT.Y.ai h;have s:=fZ.Y.ai h;have r:=ub.Y.ai h;have O:=pV.Y.ai h;obtain⟨gC,lF,S0⟩:=aZ (ai cM.Y h) (aJ.ai jr.Y h) (z7.bD (base':=w.heap.size) cM.Y.size);obtain⟨dR,dK,-⟩:=af.aM Q;have dN:=af.lt Q;obtain⟨kM,uo,-⟩:=af.aM s;have b8:=af.lt s;have gD:=fun i=>af.cell r i;have kW:=af.lt r;have QD:=fun i=>af.cell O i;have xd:=af.lt O;obtain⟨m8,lC⟩:=av Q s;clear Q s r O z7 h cM jT fZ ub jr pV L iC jh P Z HE HC;go_wp2;go_region;all_goals
   go_wp2_with fail;clear dR dK dN kM uo b8 gD kW QD xd;obtain⟨J,Y,S⟩:=pY.mk' (v1:=[x.gen,x.cap,x.used,x.closed,.slice m a d1]) (v2:=[oZ,oZ,oZ,oZ]) m8.Y lC.Y (by omega) rfl rfl;have R:Below _ (aw (aw u (w.heap.size+1) 0 [x.gen,x.cap,x.used,x.closed,.slice m a d1]) (w.heap.size+1+1) 0 [oZ,oZ,oZ,oZ]) (((aw (aw u (w.heap.size+1) 0 [x.gen,x.cap,x.used,x.closed,.slice m a d1]) (w.heap.size+1+1) 0 [oZ,oZ,oZ,oZ]).alloc (.cells #[t,y.seq,i,oZ,f] 229)).drew):=(ak (aj (aw (aw u (w.heap.size+1) 0 [x.gen,x.cap,x.used,x.closed,.slice m a d1]) (w.heap.size+1+1) 0 [oZ,oZ,oZ,oZ])) (.cells #[t,y.seq,i,oZ,f] 229)).drew;have nc:=aJ.ai (J.own lF.Y (by decide) (by decide)) R;have LX:=(J.yR aR S0.Y (by decide) (by decide) (by decide) (by decide)).j6 aR R;have gv:=ai (J.below rfl gC.Y (by omega) (by omega)) R;have Y:=Y.ai R;have S:=S.ai R;have yS:Rd ((aw (aw u (w.heap.size+1) 0 [x.gen,x.cap,x.used,x.closed,.slice m a d1]) (w.heap.size+1+1) 0 [oZ,oZ,oZ,oZ]).alloc (.cells #[t,y.seq,i,oZ,f] 229)) u [t,y.seq,i,oZ,f]:=Rd.Di (aw (aw u (w.heap.size+1) 0 [x.gen,x.cap,x.used,x.closed,.slice m a d1]) (w.heap.size+1+1) 0 [oZ,oZ,oZ,oZ]) [t,y.seq,i,oZ,f] 229 (by rw[bH,bH]);have Z6:=yS.below (aj _).drew;have aq:Ty ((aw (aw u (w.heap.size+1) 0 [x.gen,x.cap,x.used,x.closed,.slice m a d1]) (w.heap.size+1+1) 0 [oZ,oZ,oZ,oZ]).alloc (.cells #[t,y.seq,i,oZ,f] 229)) 229 u:=⟨_,_,af.newAt (aw (aw u (w.heap.size+1) 0 [x.gen,x.cap,x.used,x.closed,.slice m a d1]) (w.heap.size+1+1) 0 [oZ,oZ,oZ,oZ]) 229 #[t,y.seq,i,oZ,f] (by rw[bH,bH])⟩
   have b6:=aq.below (aj _).drew;clear yS aq;change bodyPost _ _ _ _ _ (((aw (aw u (w.heap.size+1) 0 [x.gen,x.cap,x.used,x.closed,.slice m a d1]) (w.heap.size+1+1) 0 [oZ,oZ,oZ,oZ]).alloc (.cells #[t,y.seq,i,oZ,f] 229)).drew);clear R J;generalize((aw (aw u (w.heap.size+1) 0 [x.gen,x.cap,x.used,x.closed,.slice m a d1]) (w.heap.size+1+1) 0 [oZ,oZ,oZ,oZ]).alloc (.cells #[t,y.seq,i,oZ,f] 229)).drew=wz at *;have nS:=fun i=>af.cell Y i;have qH:=fun i=>af.cell S i;refine bodyPost_ret (v:=.tuple #[.agg #[x.gen,x.cap,x.used,x.closed,.slice m a d1],.slice z n C,.agg #[oZ,oZ,oZ,oZ],.slice u 1 1]) ?_ rfl ?_
   ·simp[results,results305,go_sem,nS,qH]
   ·rw[HG.Y];exact qG.mk' (w:=w) (g:=⟨x,gY l t,dD,[⟨t,⟨y.seq,i,0,f⟩⟩]⟩) (lD.Y) rfl nc LX Z6 (fun b k _=>by injection k with k;subst k;exact b6) (aS _) gv
end
theorem vr(A:Option Addr)(c m:Nat):ny A c m 1=ng A c m:=by unfold ny ng;rw[Nat.mul_one]
section
variable(w:World)
theorem QE(x:Ch)(B:Option Addr)(f d:Nat)(R:f=x.buf.length)(SY:f<=90000)(df:bJ w .i64 B x.buf)(A:Option Addr)(c:Nat)(z:List Wt)(hn:n=z.length)(hl:n<=90000)(hr:iu w A z)(hc:∀x∈z,x.cases.length<=90000)(U:Int)(rF:x.buf≠[]\/(dW z 1 U).isSome=true) :
 Calls prog 306 #[.agg #[x.gen,x.cap,x.used,x.closed,.slice B f d],U,.slice A n c] w (qG (mE x U z) n w):=by
 have NG:=ae rF
 clear rF
 obtain⟨rH,oy,pH,SZ,ea,GY⟩:=cT (fun u (m:Below w w u)=>mq u x B f d R (by omega) (df.below m)) (fun u (m:Below w w u)=>kO u A c z hn (by omega) (hr.j6 aR m) (fun x O=>bq (hc x O) (by omega)) 1 U) (fun u (m:Below w w u)=>ji u A c z hn (by omega) (hr.j6 aR m) (fun x O=>bq (hc x O) (by omega))) (fun u (m:Below w w u) (j:Nat) (x:Wt) O kK=>ua u A c z hn (by omega) (hr.j6 aR m) (fun x O=>bq (hc x O) (by omega)) (j:=j) (x:=x) O kK) (fun u (m:Below w w u) (t:Nat) (x:Wt) O (wh co J:Int)=>vq u A c z hn (hr.j6 aR m) (t:=t) (x:=x) O wh co J) (fun u (m:Below w w u) (t:Nat) (x:Wt) O=>iu.row (hr.j6 aR m) (j:=t) (x:=x) O)
 obtain⟨lD,HN⟩:=av R hn
 unfold ZZ at rH
 rw[<-R]at rH
 clear R df hn hr hc
 have bM:Hid (Below w w (((w.alloc (tz x B f d)).alloc rB).alloc jo)):=ak (ak (ak (aj w) _) _) _
 have l7:Hid (af (((w.alloc (tz x B f d)).alloc rB).alloc jo) (w.heap.size+1) 83 #[oZ,oZ,false,false,oN]):=(af.newAt _ _ _ (by simp)).alloc _
 have iV:Hid (af (((w.alloc (tz x B f d)).alloc rB).alloc jo) (w.heap.size+1+1) 48 #[oZ,oZ,oZ,oZ]):=(af.newAt _ _ _ (by simp))
 go_enter func306,ntmps306
 go_wp2_with fail
 (with_reducible go_fit (rH.Y _ bM.Y))
 rintro e o ⟨v,rfl,B1,d1,rfl,fM,L⟩
 have KN:=l7.Y.ai L
 have LV:=iV.Y.lt
 have Ee:w.heap.size+1+1<o.heap.size:=(iV.Y.ai L).lt
 obtain⟨br,jw,iT,kL,fY⟩:=dh (ak (ai bM.Y L) (tz x B1 f d1)) (KN.alloc (tz x B1 f d1)) ((iV.Y.ai L).alloc (tz x B1 f d1)) (aJ.alloc (aJ.bD fM bM.Y.size) (tz x B1 f d1)) (af.new o 83 #[x.gen,x.cap,x.used,x.closed,.slice B1 f d1])
 clear fM L KN l7 iV bM rH LV
 go_wp2_with fail
 (with_reducible go_fit (oy.Y _ br.Y))
 rintro e w2 ⟨T,W,ok,rfl,(HF:Hid _),I⟩
 obtain⟨bE,iC,jh,ko,ft⟩:=dh (ai br.Y I) (jw.Y.ai I) (iT.Y.ai I) (fY.Y.ai I) (aJ.ai kL.Y I)
 clear I oy jw iT br fY kL
 rcases ok with _|_
 ·have hnone:dW z 1 U=none:=by
   have:=HF.Y.1;cases hh:eI z 1 U z.length with
   |none=>exact hh
   |some p=>rw[hh]at this;cases this
  have dP:x.buf≠[]:=NG.Y.resolve_right (by rw[hnone];decide)
  obtain⟨k,rest,h⟩:∃k rest,x.buf=k::rest:=by
   cases hh:x.buf with
   |nil=>exact absurd hh dP
   |cons a l=>exact⟨a,l,rfl⟩
  have HG:Hid (mE x U z=⟨{x with buf:=rest},z,⟨0,0,0,k⟩,[]⟩):=by unfold Hid mE;rw[hnone];dsimp only;rw[h];rfl
  have U6:=lD.Y
  rw[h]at U6
  have fK:0<f:=by rw[U6];simp
  have jU:f-1=rest.length:=by rw[U6];simp
  obtain⟨N,uO⟩:=ft.Y.pP
  have tU:=(aJ.cap ft.Y).2
  obtain⟨ad,fJ,hA,G,hcell⟩:=bJ.at_ uO (i:=0) (by rw[h];simp)
  rw[h]at G
  injection G with G
  subst G hA
  have Hd:w2.cell? ad=some k:=hcell
  have Jt:=fun w'=>kn (P:=prog) 22 3 underlying22 fS (some ad) f d1 1 1 rfl (by omega) w'
  have iH:=ae (fun w' (m:Below w2 w2 w')=>iE w' (ny (some ad) d1 1 1) (d1-1) rest jU (by omega) (by
   have:=bJ.from (uO.below m) (by rw[<-lD.Y];exact tU) 1;rw[h]at this;rw[vr];exact this))
  clear hnone dP h U6 N uO hcell
  have xB:=ae jU
  clear jU
  obtain⟨gD,a8,-⟩:=af.aM ko.Y
  have kW:=af.lt ko.Y
  go_wp2_with fail
  (with_reducible go_fit (iH.Y _ (aj _)))
  rintro e w3 ⟨C,q,rfl,Xh,z7,F⟩
  have E:=ko.Y.ai F
  have vh:=iC.Y.ai F
  have M:=jh.Y.ai F
  obtain⟨Aa,Ab,Qz⟩:=af.aM E
  obtain⟨Cv,m8,lC,gC,lF⟩:=dh E vh M (ai bE.Y F) (aJ.bD z7 bE.Y.size)
  clear z7 F Xh E vh M gD a8 kW Hd Jt iH
  go_wp2_with fail
  have Z:=Cv.Y.bj 4 (.slice C (f-1) q)
  have kC:=m8.Y.bO (p:=⟨o,4,none⟩) (by show w.heap.size+1≠o;omega) (.slice C (f-1) q)
  have SV:=lC.Y.bO (p:=⟨o,4,none⟩) (by show w.heap.size+1+1≠o;omega) (.slice C (f-1) q)
  have Fp:aJ _ w 3 .i64 (.slice C (f-1) q) rest:=bK lF.Y Cv.Y (by decide) 4 (.slice C (f-1) q)
  have ei:=gC.Y.setCell (p:=⟨o,4,none⟩) (by show w.heap.size<=o.heap.size;omega) (.slice C (f-1) q)
  generalize Bg:w3.setCell ⟨o,4,none⟩ (.slice C (f-1) q)=w5 at *
  have je:=ae ei.drew;have rI:Hid (af w5.drew _ _ _):=kC;have jV:Hid (af w5.drew _ _ _):=SV;have zG:Hid (af w5.drew _ _ _):=Z;have rK:=ae (aJ.ai Fp (aj w5).drew)
  have Hc:=fun i=>af.cell Z i
  have QA:=af.lt Z
  clear Bg Z kC SV Fp ei Aa Ab Qz Cv m8 lC gC lF ko iC jh bE ft
  go_region_law(first
   |(go_simp;go_at_call 272;(with_reducible go_fit (pH.Y _ je.Y));rintro e w6 ⟨v,rfl,r,s,rfl,NA,Q⟩;have U5:=zG.Y.ai Q;have NH:=rI.Y.ai Q;have NI:=jV.Y.ai Q;have QB:=fun i=>af.cell U5 i;have Z0:=fun i=>af.cell NH i;have Z1:=fun i=>af.free NH i;have Z2:=fun i=>af.cell NI i;have Z3:=fun i=>af.free NI i;have QC:=U5.lt;have Z4:=NH.lt;have Z5:=NI.lt;go_wp2_with fail))
  all_goals
   go_wp2_with fail;have eF:=ai je.Y Q;have eQ:=aJ.ai rK.Y Q;have e5:=NA.bD (base':=w.heap.size) je.Y.size;clear QB Z0 Z1 Z2 Z3 QC Z4 Z5 Hc QA;obtain⟨TW,fh,Ag⟩:=pY.mk' (v1:=[x.gen,x.cap,x.used,x.closed,.slice C (f-1) q]) (v2:=[oZ,oZ,oZ,k]) NH NI (by omega) rfl rfl;have nc:=TW.own eQ (by decide) (by decide);have LX:=TW.yR aR e5 (by decide) (by decide) (by decide) (by decide);have gv:=TW.below rfl eF (by omega) (by omega);change bodyPost _ _ _ _ _ (aw (aw w6 (w.heap.size+1) 0 [x.gen,x.cap,x.used,x.closed,.slice C (f-1) q]) (w.heap.size+1+1) 0 [oZ,oZ,oZ,k]);generalize aw (aw w6 (w.heap.size+1) 0 [x.gen,x.cap,x.used,x.closed,.slice C (f-1) q]) (w.heap.size+1+1) 0 [oZ,oZ,oZ,k]=wz at *;have nS:=fun i=>af.cell fh i;have qH:=fun i=>af.cell Ag i;refine bodyPost_ret (v:=.tuple #[.agg #[x.gen,x.cap,x.used,x.closed,.slice C (f-1) q],.slice r n s,.agg #[oZ,oZ,oZ,k],oN]) ?_ rfl ?_
   ·simp[results,results306,go_sem,nS,qH]
   ·rw[HG.Y];exact qG.mk' (w:=w) (g:=⟨{x with buf:=rest},z,⟨0,0,0,k⟩,[]⟩) (xB.Y) (rfl) nc LX (Rd.nil _ _) (fun b m=>by cases m) (aS _) gv
 ·obtain⟨⟨t,i⟩,Y⟩:=Option.isSome_iff_exists.1 HF.Y.1.symm;obtain⟨hT,hW,_⟩:=HF.Y.2 t i Y;obtain⟨y,hy,dT⟩:=py Y;obtain⟨kK,⟨k1,k2,J⟩,S,_⟩:=JW dT;obtain⟨k,rest,h⟩:∃k rest,x.buf++[J]=k::rest:=by
   cases hh:x.buf with
   |nil=>exact⟨J,[],rfl⟩
   |cons a l=>exact⟨a,l++[J],rfl⟩
  have jU:f=rest.length:=by have h1:=congrArg List.length h;have h2:=lD.Y;simp at h1;omega
  have HG:Hid (mE x U z=⟨{x with buf:=rest},gY z t,⟨0,0,0,k⟩,[⟨t,⟨y.seq,i,0,0⟩⟩]⟩):=by
   have h1:dW z 1 U=some (t,i):=Y;have h2:z.getD t iz=y:=by rw[cZ,hy];rfl
   have h3:y.cases.getD i (0,0,0)=(k1,k2,J):=by rw[cZ,S];rfl
   unfold Hid mE;rw[h1];dsimp only;rw[h2,h3];dsimp only;rw[h];unfold iX;rw[h2];rfl
  subst hT hW;obtain⟨ad,D,dd,hA,_,cO,c0,c1,c2,c3⟩:=GY.Y w2 bE.Y t y hy;have U4:t<n:=by rw[HN.Y];exact dv hy
  have Jk:i<y.cases.length:=dv S;obtain⟨kd,kk,hD,LY,dM⟩:=dI.at_ iD (by decide) cO Jk;rw[S]at LY;injection LY with LY
  subst LY;have dU:=dM 2 _ rfl;rw[add_lit _ _ (by decide)]at dU;subst hA hD;obtain⟨HY,JX,b6,xB⟩:=bN hy kK h jU;obtain⟨cl,nX⟩:∃cl,cl=y.cases.length:=⟨_,rfl⟩
  rw[<-nX]at Jk c3;have i1:(0:Int)<=(i:Int):=by omega
  have i2:(i:Int)<(cl:Int):=by omega
  have i3:(0:Int)<=(t:Int):=by omega
  have i4:(t:Int)<(n:Int):=by omega
  clear Y hy dT kK S h jU cO dM c0 c1 c2 nX;have cd:=aJ.ai ft.Y (aj w2).drew;have cn:=ko.Y.drewN 1;have ct:=iC.Y.drewN 1;have cv:=jh.Y.drewN 1;have cw:=bE.Y.drew;have Z7:=ae cd;have cy:Hid (af w2.drew o 83 #[x.gen,x.cap,x.used,x.closed,.slice B1 f d1]):=cn;have cz:Hid (af w2.drew (w.heap.size+1) 83 #[oZ,oZ,false,false,oN]):=ct;have cC:Hid (af w2.drew (w.heap.size+1+1) 48 #[oZ,oZ,oZ,oZ]):=cv;have cF:=ae cw;clear cd cn ct cv cw;obtain⟨gD,a8,-⟩:=af.aM ko.Y;have kW:=af.lt ko.Y;go_wp2;go_region_law(first
   |(refine kH rfl _ _ 22 rfl w 3 .i64 underlying22 fS _ x.buf rfl ?_ w2 1 1 [J] rfl rfl ?_ ?_ ?_ ?_;(exact aJ.alloc Z7.Y _);(exact bJ.one _ .i64 _ _);(rw[<-lD.Y];simp;omega);(have:=bE.Y.size;simp;omega);intro v4 w4 bR bg fg;clear fg;obtain⟨C,q,dS⟩:=bR.shape;rw[eW,gL, <-lD.Y]at dS;subst dS;have nR:=aJ.alloc Z7.Y (.cells #[J] 3);have bo:=cy.Y.alloc (.cells #[J] 3);have tW:=cz.Y.alloc (.cells #[J] 3);have bY:=cC.Y.alloc (.cells #[J] 3);have E:=bo.grown bg (aY nR bo (by decide));have vh:=tW.grown bg (aY nR tW (by decide));have M:=bY.grown bg (aY nR bY (by decide));have F:=aJ.bh nR (ak cF.Y (.cells #[J] 3)) bg (by have:=bE.Y.size;simp;omega) (aS _);have Aa:=fun i=>af.cell E i;have Ab:=fun i=>af.free E i;have Qz:=E.lt;have Cv:=ae E;have m8:=ae vh;have lC:=ae M;have gC:=ae F;have lF:=ae bR;clear bR bg nR bo tW bY E vh M F;go_wp2_with fail))
  all_goals
   clear gD a8 kW c3 dU i1 i2 i3 i4;have Z:=Cv.Y.bj 4 (.slice C (f+1) q);have kC:=m8.Y.bO (p:=⟨o,4,none⟩) (by show w.heap.size+1≠o;omega) (.slice C (f+1) q);have SV:=lC.Y.bO (p:=⟨o,4,none⟩) (by show w.heap.size+1+1≠o;omega) (.slice C (f+1) q);have Fp:aJ _ w 3 .i64 (.slice C (f+1) q) (x.buf++[J]):=bK lF.Y Cv.Y (by decide) 4 (.slice C (f+1) q);have ei:=gC.Y.setCell (p:=⟨o,4,none⟩) (by show w.heap.size<=o.heap.size;omega) (.slice C (f+1) q);generalize Bg:w4.setCell ⟨o,4,none⟩ (.slice C (f+1) q)=w5 at *;rw[b6.Y]at Fp;obtain⟨N,uO⟩:=aJ.pP Fp;have tU:=(aJ.cap Fp).2;obtain⟨a7,fJ,hA,G,hcell⟩:=bJ.at_ uO (i:=0) (by simp);injection G with G
   subst G hA;have Hd:w5.cell? a7=some k:=hcell;have Jt:=fun w'=>kn (P:=prog) 22 3 underlying22 fS (some a7) (f+1) q 1 1 rfl (by omega) w';have iH:=ae (fun w' (m:Below w5 w5 w')=>iE w' (ny (some a7) q 1 1) (q-1) rest xB.Y (by omega) (by
    have:=bJ.from (c:=q) (uO.below m) (by simp;have:=xB.Y;omega) 1;rw[vr];exact this))
   obtain⟨zG,rI,jV,je⟩:=bN Z kC SV ei;obtain⟨Hc,dg,-⟩:=af.aM Z;have QA:=af.lt Z;clear Bg Z kC SV ei Fp N uO tU hcell Aa Ab Qz Cv m8 lC gC lF ko iC jh bE ft cy cz cC cF Z7;go_wp2_with fail;(with_reducible go_fit (iH.Y _ (aj _)));rintro e w6 ⟨r,s,rfl,e7,NA,Q⟩;have U5:=zG.Y.ai Q;have NH:=rI.Y.ai Q;have NI:=jV.Y.ai Q;obtain⟨QB,dz,QC⟩:=af.aM U5;obtain⟨aq,b7,b8,xe,JY⟩:=dh U5 NH NI (ai je.Y Q) (aJ.bD NA je.Y.size);clear NA Q e7 U5 NH NI Hc dg QA Hd Jt iH zG rI jV je;obtain⟨HE,HC⟩:=av (fun u m=>ea.Y u m t y HY.Y i 0 0) (fun u m=>SZ.Y u m t y HY.Y JX.Y);go_wp2_with fail;have QF:=aq.Y.bj 4 (.slice r f s);have dQ:=b7.Y.bO (p:=⟨o,4,none⟩) (by show w.heap.size+1≠o;omega) (.slice r f s);have XR:=b8.Y.bO (p:=⟨o,4,none⟩) (by show w.heap.size+1+1≠o;omega) (.slice r f s);have Z8:aJ _ w 3 .i64 (.slice r f s) rest:=bK JY.Y aq.Y (by decide) 4 (.slice r f s);have vu:=xe.Y.setCell (p:=⟨o,4,none⟩) (by show w.heap.size<=o.heap.size;omega) (.slice r f s);generalize e9:w6.setCell ⟨o,4,none⟩ (.slice r f s)=w7 at *;obtain⟨a6,S1,Ah,S3,LZ⟩:=dh QF dQ XR vu Z8;clear e9 QF dQ XR vu Z8 QB dz QC aq b7 b8 xe JY;(with_reducible go_fit (HE.Y _ S3.Y));rintro e w3 ⟨rfl,H⟩;obtain⟨cM,jT,fZ,ub,jr,pV⟩:=cT (ak (ai S3.Y H) (.cells #[t,y.seq,i,oZ,oZ] 229)) ((S1.Y.ai H).alloc (.cells #[t,y.seq,i,oZ,oZ] 229)) ((Ah.Y.ai H).alloc (.cells #[t,y.seq,i,oZ,oZ] 229)) ((a6.Y.ai H).alloc (.cells #[t,y.seq,i,oZ,oZ] 229)) (aJ.alloc (aJ.ai LZ.Y H) (.cells #[t,y.seq,i,oZ,oZ] 229)) (af.new w3 229 #[t,y.seq,i,oZ,oZ]);have Ox:o.heap.size<w3.heap.size:=(a6.Y.ai H).lt;clear H;go_wp2_with fail;(with_reducible go_fit (HC.Y _ cM.Y));rintro e K ⟨v,rfl,A8,c8,rfl,SX,Dc⟩;have V:=jT.Y.ai Dc;have X:=fZ.Y.ai Dc;have bz:=ub.Y.ai Dc;have b5:=pV.Y.ai Dc;obtain⟨S4,en,ez⟩:=aZ (ai cM.Y Dc) (aJ.ai jr.Y Dc) (SX.bD (base':=w.heap.size) cM.Y.size);obtain⟨dR,dK,-⟩:=af.aM V;have dN:=af.lt V;obtain⟨kM,uo,-⟩:=af.aM X;have e8:=af.lt X;have gD:=fun i=>af.cell bz i;have kW:=af.lt bz;have QD:=fun i=>af.cell b5 i;have xd:=af.lt b5;obtain⟨eo,er⟩:=av V X;clear V X bz b5 SX Dc cM jT fZ ub jr pV a6 S1 Ah S3 LZ HE HC;go_wp2;go_region;all_goals
    go_wp2_with fail;clear dR dK dN kM uo e8 gD kW QD xd;obtain⟨TW,fh,Ag⟩:=pY.mk' (v1:=[x.gen,x.cap,x.used,x.closed,.slice r f s]) (v2:=[oZ,oZ,oZ,k]) eo.Y er.Y (by omega) rfl rfl;have hD:Below _ (aw (aw K (w.heap.size+1) 0 [x.gen,x.cap,x.used,x.closed,.slice r f s]) (w.heap.size+1+1) 0 [oZ,oZ,oZ,k]) (((aw (aw K (w.heap.size+1) 0 [x.gen,x.cap,x.used,x.closed,.slice r f s]) (w.heap.size+1+1) 0 [oZ,oZ,oZ,k]).alloc (.cells #[t,y.seq,i,oZ,oZ] 229)).drew):=(ak (aj (aw (aw K (w.heap.size+1) 0 [x.gen,x.cap,x.used,x.closed,.slice r f s]) (w.heap.size+1+1) 0 [oZ,oZ,oZ,k])) (.cells #[t,y.seq,i,oZ,oZ] 229)).drew;have nc:=aJ.ai (TW.own en.Y (by decide) (by decide)) hD;have LX:=(TW.yR aR ez.Y (by decide) (by decide) (by decide) (by decide)).j6 aR hD;have gv:=ai (TW.below rfl S4.Y (by omega) (by omega)) hD;have fh:=fh.ai hD;have Ag:=Ag.ai hD;have yS:Rd ((aw (aw K (w.heap.size+1) 0 [x.gen,x.cap,x.used,x.closed,.slice r f s]) (w.heap.size+1+1) 0 [oZ,oZ,oZ,k]).alloc (.cells #[t,y.seq,i,oZ,oZ] 229)) K [t,y.seq,i,oZ,oZ]:=Rd.Di (aw (aw K (w.heap.size+1) 0 [x.gen,x.cap,x.used,x.closed,.slice r f s]) (w.heap.size+1+1) 0 [oZ,oZ,oZ,k]) [t,y.seq,i,oZ,oZ] 229 (by rw[bH,bH]);have Z6:=yS.below (aj _).drew;have dc:Ty ((aw (aw K (w.heap.size+1) 0 [x.gen,x.cap,x.used,x.closed,.slice r f s]) (w.heap.size+1+1) 0 [oZ,oZ,oZ,k]).alloc (.cells #[t,y.seq,i,oZ,oZ] 229)) 229 K:=⟨_,_,af.newAt (aw (aw K (w.heap.size+1) 0 [x.gen,x.cap,x.used,x.closed,.slice r f s]) (w.heap.size+1+1) 0 [oZ,oZ,oZ,k]) 229 #[t,y.seq,i,oZ,oZ] (by rw[bH,bH])⟩
    have e6:=dc.below (aj _).drew;clear yS dc;change bodyPost _ _ _ _ _ (((aw (aw K (w.heap.size+1) 0 [x.gen,x.cap,x.used,x.closed,.slice r f s]) (w.heap.size+1+1) 0 [oZ,oZ,oZ,k]).alloc (.cells #[t,y.seq,i,oZ,oZ] 229)).drew);clear hD TW;generalize((aw (aw K (w.heap.size+1) 0 [x.gen,x.cap,x.used,x.closed,.slice r f s]) (w.heap.size+1+1) 0 [oZ,oZ,oZ,k]).alloc (.cells #[t,y.seq,i,oZ,oZ] 229)).drew=wz at *;have nS:=fun i=>af.cell fh i;have qH:=fun i=>af.cell Ag i;refine bodyPost_ret (v:=.tuple #[.agg #[x.gen,x.cap,x.used,x.closed,.slice r f s],.slice A8 n c8,.agg #[oZ,oZ,oZ,k],.slice K 1 1]) ?_ rfl ?_
    ·simp[results,results306,go_sem,nS,qH]
    ·rw[HG.Y];exact qG.mk' (w:=w) (g:=⟨{x with buf:=rest},gY z t,⟨0,0,0,k⟩,[⟨t,⟨y.seq,i,0,0⟩⟩]⟩) (xB.Y) rfl nc LX Z6 (fun b m _=>by injection m with m;subst m;exact e6) (aS _) gv
end
structure lL (g:Mo.p9) (n base:Nat) (w':World) (B:Option Addr) (d:Nat) (A:Option Addr) (c:Nat) (D:Option Addr) (dd:Nat):Prop where
 pP:bJ w' .i64 B g.c.buf
 S5:∀b,B=some b->g.c.buf≠[]->Ty w' 3 b.block
 cap:g.c.buf.length<=d
 own:lB w' base (.slice A n c) g.l
 Z9:dI w' nz D g.told
 QG:∀b,D=some b->g.told≠[]->Ty w' 229 b.block
 L0:g.told.length<=dd
theorem pY.rd{r:Nat}(T:pY w w' q r t1 t2){f:List Value}{e:TypeId}(h:Rd w A f)(y:∀b,A=some b->f≠[]->Ty w e b.block)(l:e≠t1)(o:e≠t2):Rd w' A f:=by
 intro i u j;obtain⟨a,g,c⟩:=h i u j;have d:f≠[]:=by rintro rfl;simp at j
 refine⟨a,g,?_⟩;have k:(a.add i).block=a.block:=by unfold Addr.add;split<;>rfl
 have:=(T.ty (y a g d) l o).2;unfold World.cell? at c ⊢;rw[k]at c ⊢;rw[this];exact c
theorem lL.two{g:p9}{c r:Nat}(h:lL g n base w B d A c D dd)(T:pY w w' q r 83 48):lL g n base w' B d A c D dd :=
 ⟨T.rd h.pP (fun b e a=>h.S5 b e (fun f=>a (by rw[f];rfl))) ag ag,fun b e a=>(T.ty (h.S5 b e a) ag ag).1,h.cap,T.yR aR h.own ag ag ag ag,
  T.rd h.Z9 (fun b e a=>h.QG b e (fun f=>a (by rw[f];rfl))) ag ag,fun b e a=>(T.ty (h.QG b e a) ag ag).1,h.L0⟩
theorem lL.bD{g:p9}{base':Nat}{c:Nat}(h:lL g n base w B d A c D dd)(a:base'<=base):lL g n base' w B d A c D dd:=⟨h.pP,h.S5,h.cap,h.own.bD a,h.Z9,h.QG,h.L0⟩
theorem lL.more{g:p9}{c:Nat}(h:lL g n base w B d A c D dd)(a:Below w w w'):lL g n base w' B d A c D dd:=⟨h.pP.below a,fun b e f=>(h.S5 b e f).below a,h.cap,h.own.j6 aR a,h.Z9.below a,fun b e f=>(h.QG b e f).below a,h.L0⟩
theorem lL.e{g:p9}{c:Nat}(h:lL g n w w' B d A c D dd)(u:Below w w w') :
 qG g n w (.returned (.tuple #[.agg #[g.c.gen,g.c.cap,g.c.used,g.c.closed,.slice B g.c.buf.length d],.slice A n c,.agg #[g.r.seq,g.r.cs,g.r.code,g.r.value],.slice D g.told.length dd])) w' :=
 ⟨B,d,A,c,D,dd,rfl,h.pP,h.S5,h.cap,h.own,h.Z9,h.QG,h.L0,u⟩
theorem qG.p{g:p9}{e:Ending}(h:qG g n w e w'):∃B d A c D dd,e=.returned (.tuple #[.agg #[g.c.gen,g.c.cap,g.c.used,g.c.closed,.slice B g.c.buf.length d],.slice A n c,.agg #[g.r.seq,g.r.cs,g.r.code,g.r.value],.slice D g.told.length dd])/\lL g n w w' B d A c D dd/\Below w w w':=by obtain⟨B,d,A,c,D,dd,rfl,a,b,f,i,j,k,l,m⟩:=h;exact⟨B,d,A,c,D,dd,rfl,⟨a,b,f,i,j,k,l⟩,m⟩
section
variable(w:World)
theorem U7(x:Ch)(B:Option Addr)(l d:Nat)(o:l=x.buf.length)(SY:l<=90000)(E:bJ w .i64 B x.buf)(A:Option Addr)(c:Nat)(f:List Wt)(N:n=f.length)(hl:n<=90000)(O:iu w A f)(M:∀x∈f,x.cases.length<=90000)(p:Int)(z:Int)(hu:x.used=true)(mV:dt x p f 1=true) :
 Calls prog 294 #[.agg #[x.gen,x.cap,x.used,x.closed,.slice B l d],p,.slice A n c,.int .i64 1,z] w (qG (xm x p f 1 z) n w):=by
 obtain⟨rH,oy,pH,lX,C,lD⟩:=cT (fun k (m:Below w w k)=>mq k x B l d o aa (E.below m)) (fun k (m:Below w w k)=>kO k A c f N aa (O.j6 aR m) (fun x L=>bq (M x L) aa) 1 p) (fun k (m:Below w w k)=>ji k A c f N aa (O.j6 aR m) (fun x L=>bq (M x L) aa)) (fun k (m:Below w w k)=>yP k x B l d o hu A c f N aa (O.j6 aR m) (fun x L=>bq (M x L) aa) p) (fun k (m:Below w w k)=>(Qy k x B l d o SY (E.below m) A c f N hl (O.j6 aR m) M p z)) o
 have J:=ae (show xm x p f 1 z=_ from rfl)
 unfold xm at J
 rw[mV]at lX J
 unfold ZZ at rH
 rw[<-o]at rH
 have L2:=ae mV
 clear o E N O M mV
 obtain⟨j,h,us,u,I⟩:=x
 have a6:us=true:=hu
 subst a6
 clear hu
 dsimp only at *
 have bM:Hid (Below w w (((w.alloc (.cells #[j,h,true,u,.slice B l d] 83)).alloc rB).alloc jo)):=ak (ak (ak (aj w) _) _) _
 have jc:Hid (af (((w.alloc (.cells #[j,h,true,u,.slice B l d] 83)).alloc rB).alloc jo) w 83 #[j,h,true,u,.slice B l d]):=((af.new _ _ _).alloc _).alloc _
 have l7:Hid (af (((w.alloc (.cells #[j,h,true,u,.slice B l d] 83)).alloc rB).alloc jo) (w.heap.size+1) 83 #[oZ,oZ,false,false,oN]):=(af.newAt _ _ _ aD).alloc _
 have iV:Hid (af (((w.alloc (.cells #[j,h,true,u,.slice B l d] 83)).alloc rB).alloc jo) (w.heap.size+1+1) 48 #[oZ,oZ,oZ,oZ]):=(af.newAt _ _ _ aD)
 go_enter func294,ntmps294
 go_wp2_with fail
 go_fit (oy _ bM)
 rintro e w1 ⟨T,W,ok,rfl,hf,q⟩
 obtain⟨br,jw,iT,Y⟩:=bN (ai bM q) (l7.ai q) (iV.ai q) (jc.ai q)
 have a7:Hid (ok=(dW f 1 p).isSome):=rj hf
 clear hf q oy
 have gD:=fun i=>af.cell Y i
 have kW:=af.lt Y
 go_wp2_with fail
 go_fit (lX _ br)
 rintro e w2 ⟨rfl,r⟩
 obtain⟨H,iC,jh,ko⟩:=bN (ai br r) (jw.ai r) (iT.ai r) (Y.ai r)
 clear r gD kW lX
 have gD:=fun i=>af.cell ko i
 have kW:=af.lt ko
 rcases P:u with _|_
 ·have Q:Hid (xm ⟨j,h,true,u,I⟩ p f 1 z=mD ⟨j,h,true,u,I⟩ p f z):=by unfold Hid xm;rw[L2.Y,P];rfl
  obtain⟨g,hg⟩:=aG (mD ⟨j,h,true,u,I⟩ p f z);rw[<-hg]at Q C;rw[P]at gD C;have JZ:=ae hg;clear hg;have iH:=ae P;subst P;go_wp2_with fail;go_fit (C _ H);rintro e w3 he;obtain⟨t,d3,A3,c3,D3,X,rfl,G0,a⟩:=he.p;clear he;have tW:=iC.ai a;have F:=jh.ai a;have qp:=ai H a;obtain⟨V,S,U⟩:=af.aM tW;obtain⟨kM,uo,D⟩:=af.aM F;obtain⟨NJ,jT,Z,K⟩:=bN (G0.bD H.size) tW F qp;clear G0 a tW F qp;go_wp2_with fail;obtain⟨y,fh,R⟩:=pY.mk' (v1:=[g.c.gen,g.c.cap,g.c.used,g.c.closed,.slice t g.c.buf.length d3]) (v2:=[g.r.seq,g.r.cs,g.r.code,g.r.value]) jT Z aa rfl rfl;have aq:=NJ.two y;have gv:=y.below rfl K aa aa;change bodyPost _ _ _ _ _ (aw (aw w3 (w.heap.size+1) 0 [g.c.gen,g.c.cap,g.c.used,g.c.closed,.slice t g.c.buf.length d3]) (w.heap.size+1+1) 0 [g.r.seq,g.r.cs,g.r.code,g.r.value]);clear y V S U kM uo D;generalize aw (aw w3 (w.heap.size+1) 0 [g.c.gen,g.c.cap,g.c.used,g.c.closed,.slice t g.c.buf.length d3]) (w.heap.size+1+1) 0 [g.r.seq,g.r.cs,g.r.code,g.r.value]=wz at *;have nS:=fun i=>af.cell fh i;have qH:=fun i=>af.cell R i;refine bodyPost_ret (v:=.tuple #[.agg #[g.c.gen,g.c.cap,g.c.used,g.c.closed,.slice t g.c.buf.length d3],.slice A3 n c3,.agg #[g.r.seq,g.r.cs,g.r.code,g.r.value],.slice D3 g.told.length X]) ?_ rfl ?_
  ·simp[results,results294,go_sem,nS,qH]
  ·rw[Q.Y];exact aq.e gv
 ·subst P;have Q:Hid (xm ⟨j,h,true,true,I⟩ p f 1 z=⟨⟨j,h,true,true,I⟩,f,bI 9,[]⟩):=by unfold Hid xm;rw[L2.Y];rfl
  go_wp2_with fail;go_fit (rH _ H);rintro e w3 ⟨v,rfl,t,d3,rfl,nR,a⟩;obtain⟨jT,Z,K,jr⟩:=bN (iC.ai a) (jh.ai a) (ai H a) (aJ.bD nR H.size);clear nR a;go_wp2_with fail;go_fit (pH _ K);rintro e w4 ⟨v,rfl,A4,c4,rfl,z7,s⟩;have vh:=jT.ai s;have G:=Z.ai s;obtain⟨V,S,U⟩:=af.aM vh;obtain⟨kM,uo,D⟩:=af.aM G;obtain⟨m8,lC,gC,lF,S0⟩:=dh vh G (ai K s) (aJ.ai jr s) (z7.bD (base':=w.heap.size) K.size);clear vh G z7 s;go_wp2_with fail;obtain⟨y,fh,R⟩:=pY.mk' (v1:=[j,h,true,true,.slice t l d3]) (v2:=[oZ,oZ,.int .i64 9,oZ]) m8 lC aa rfl rfl;have nc:=y.own lF ag ag;have LX:=y.yR aR S0 ag ag ag ag;have gv:=y.below rfl gC aa aa;change bodyPost _ _ _ _ _ (aw (aw w4 (w.heap.size+1) 0 [j,h,true,true,.slice t l d3]) (w.heap.size+1+1) 0 [oZ,oZ,.int .i64 9,oZ]);clear y V S U kM uo D;generalize aw (aw w4 (w.heap.size+1) 0 [j,h,true,true,.slice t l d3]) (w.heap.size+1+1) 0 [oZ,oZ,.int .i64 9,oZ]=wz at *;have nS:=fun i=>af.cell fh i;have qH:=fun i=>af.cell R i;refine bodyPost_ret (v:=.tuple #[.agg #[j,h,true,true,.slice t l d3],.slice A4 n c4,.agg #[oZ,oZ,.int .i64 9,oZ],oN]) ?_ rfl ?_
  ·simp[results,results294,go_sem,nS,qH]
  ·rw[Q.Y];exact qG.mk' (w:=w) (g:=⟨⟨j,h,true,true,I⟩,f,bI 9,[]⟩) lD rfl nc LX (Rd.nil _ _) (fun b m=>by cases m) (aS _) gv
theorem U8(x:Ch)(B:Option Addr)(r d:Nat)(u:r=x.buf.length)(SY:r<=90000)(P:bJ w .i64 B x.buf)(A:Option Addr)(c:Nat)(o:List Wt)(hn:n=o.length)(hl:n<=90000)(hr:iu w A o)(hc:∀x∈o,x.cases.length<=90000)(p:Int)(va:Int)(hu:x.used=true)(mV:dt x p o 2=true) :
 Calls prog 294 #[.agg #[x.gen,x.cap,x.used,x.closed,.slice B r d],p,.slice A n c,.int .i64 2,va] w (qG (xm x p o 2 va) n w):=by
 obtain⟨rH,oy,pH,lX,aq,lD⟩:=cT (fun j (t:Below w w j)=>mq j x B r d u aa (P.below t)) (fun j (t:Below w w j)=>kO j A c o hn aa (hr.j6 aR t) (fun x hx=>bq (hc x hx) aa) 1 p) (fun j (t:Below w w j)=>ji j A c o hn aa (hr.j6 aR t) (fun x hx=>bq (hc x hx) aa)) (fun j (t:Below w w j)=>yQ j x B r d u hu A c o hn aa (hr.j6 aR t) (fun x hx=>bq (hc x hx) aa) p) (fun j (t:Below w w j)=>(fun F=>QE j x B r d u SY (P.below t) A c o hn hl (hr.j6 aR t) hc p F)) u
 have Y:=ae (show xm x p o 2 va=_ from rfl)
 unfold xm at Y
 rw[mV]at lX Y
 unfold ZZ at rH
 rw[<-u]at rH
 have L2:=ae mV
 clear u P hn hr hc mV
 obtain⟨m,k,us,H,J⟩:=x
 have bg:us=true:=hu
 subst bg
 clear hu
 dsimp only at *
 have bM:Hid (Below w w (((w.alloc (.cells #[m,k,true,H,.slice B r d] 83)).alloc rB).alloc jo)):=ak (ak (ak (aj w) _) _) _
 have jc:Hid (af (((w.alloc (.cells #[m,k,true,H,.slice B r d] 83)).alloc rB).alloc jo) w 83 #[m,k,true,H,.slice B r d]):=((af.new _ _ _).alloc _).alloc _
 have l7:Hid (af (((w.alloc (.cells #[m,k,true,H,.slice B r d] 83)).alloc rB).alloc jo) (w.heap.size+1) 83 #[oZ,oZ,false,false,oN]):=(af.newAt _ _ _ aD).alloc _
 have iV:Hid (af (((w.alloc (.cells #[m,k,true,H,.slice B r d] 83)).alloc rB).alloc jo) (w.heap.size+1+1) 48 #[oZ,oZ,oZ,oZ]):=(af.newAt _ _ _ aD)
 go_enter func294,ntmps294
 go_wp2_with fail
 go_fit (oy _ bM)
 rintro e w1 ⟨T,W,ok,rfl,hf,z⟩
 obtain⟨br,jw,iT,fY⟩:=bN (ai bM z) (l7.ai z) (iV.ai z) (jc.ai z)
 have a6:Hid (ok=(dW o 1 p).isSome):=rj hf
 clear hf z oy
 have gD:=fun i=>af.cell fY i
 have kW:=af.lt fY
 go_wp2_with fail
 go_fit (lX _ br)
 rintro e w2 ⟨rfl,C⟩
 obtain⟨G,iC,jh,ko⟩:=bN (ai br C) (jw.ai C) (iT.ai C) (fY.ai C)
 clear C gD kW lX
 have gD:=fun i=>af.cell ko i
 have kW:=af.lt ko
 by_cases F:J≠[]\/(dW o 1 p).isSome=true
 ·have Z:Hid (xm ⟨m,k,true,H,J⟩ p o 2 va=mE ⟨m,k,true,H,J⟩ p o):=by
   have hp:0<J.length\/(dW o 1 p).isSome=true:=by
    rcases F with h|h
    ·left;cases J with
     |nil=>exact absurd rfl h
     |cons a l=>simp
    ·exact .inr h
   unfold Hid xm;rw[L2.Y,ah ag,ah (fun h=>absurd h.1 ag),au ⟨rfl,hp⟩]
  have K:=ae (fun j t=>aq j t F)
  obtain⟨g,hg⟩:=aG (mE ⟨m,k,true,H,J⟩ p o)
  rw[<-hg]at Z K
  have JZ:=ae hg
  clear hg aq
  by_cases bo:0<r
  ·have d1:decide ((0:Int)<r)=true:=eE aa;clear F;go_wp2_with fail;go_fit (K _ G);rintro e U he;obtain⟨s,d3,A3,c3,D3,N,rfl,X,f⟩:=he.p;clear he;have S:=iC.ai f;have q:=jh.ai f;have qp:=ai G f;obtain⟨dR,dK,dN⟩:=af.aM S;obtain⟨kM,uo,E⟩:=af.aM q;obtain⟨NJ,jT,fZ,M⟩:=bN (X.bD G.size) S q qp;clear X f S q qp;go_wp2_with fail;obtain⟨y,fh,V⟩:=pY.mk' (v1:=[g.c.gen,g.c.cap,g.c.used,g.c.closed,.slice s g.c.buf.length d3]) (v2:=[g.r.seq,g.r.cs,g.r.code,g.r.value]) jT fZ aa rfl rfl;have O:=NJ.two y;have gv:=y.below rfl M aa aa;change bodyPost _ _ _ _ _ (aw (aw U (w.heap.size+1) 0 [g.c.gen,g.c.cap,g.c.used,g.c.closed,.slice s g.c.buf.length d3]) (w.heap.size+1+1) 0 [g.r.seq,g.r.cs,g.r.code,g.r.value]);clear y dR dK dN kM uo E;generalize aw (aw U (w.heap.size+1) 0 [g.c.gen,g.c.cap,g.c.used,g.c.closed,.slice s g.c.buf.length d3]) (w.heap.size+1+1) 0 [g.r.seq,g.r.cs,g.r.code,g.r.value]=wz at *;have nS:=fun i=>af.cell fh i;have qH:=fun i=>af.cell V i;refine bodyPost_ret (v:=.tuple #[.agg #[g.c.gen,g.c.cap,g.c.used,g.c.closed,.slice s g.c.buf.length d3],.slice A3 n c3,.agg #[g.r.seq,g.r.cs,g.r.code,g.r.value],.slice D3 g.told.length N]) ?_ rfl ?_
   ·simp[results,results294,go_sem,nS,qH]
   ·rw[Z.Y];exact O.e gv
  ·have a7:r=0:=aa;have L:ok=true:=by
    rw[a6.Y];rcases F with h|h
    ·exfalso;have:=lD.Y;cases J with
     |nil=>exact h rfl
     |cons a l=>simp at this;omega
    ·exact h
   subst L a7;clear F;go_wp2_with fail;go_fit (K _ G);rintro e U he;obtain⟨s,d3,A3,c3,D3,N,rfl,X,f⟩:=he.p;clear he;have S:=iC.ai f;have q:=jh.ai f;have qp:=ai G f;obtain⟨dR,dK,dN⟩:=af.aM S;obtain⟨kM,uo,E⟩:=af.aM q;obtain⟨NJ,jT,fZ,M⟩:=bN (X.bD G.size) S q qp;clear X f S q qp;go_wp2_with fail;obtain⟨y,fh,V⟩:=pY.mk' (v1:=[g.c.gen,g.c.cap,g.c.used,g.c.closed,.slice s g.c.buf.length d3]) (v2:=[g.r.seq,g.r.cs,g.r.code,g.r.value]) jT fZ aa rfl rfl;have O:=NJ.two y;have gv:=y.below rfl M aa aa;change bodyPost _ _ _ _ _ (aw (aw U (w.heap.size+1) 0 [g.c.gen,g.c.cap,g.c.used,g.c.closed,.slice s g.c.buf.length d3]) (w.heap.size+1+1) 0 [g.r.seq,g.r.cs,g.r.code,g.r.value]);clear y dR dK dN kM uo E;generalize aw (aw U (w.heap.size+1) 0 [g.c.gen,g.c.cap,g.c.used,g.c.closed,.slice s g.c.buf.length d3]) (w.heap.size+1+1) 0 [g.r.seq,g.r.cs,g.r.code,g.r.value]=wz at *;have nS:=fun i=>af.cell fh i;have qH:=fun i=>af.cell V i;refine bodyPost_ret (v:=.tuple #[.agg #[g.c.gen,g.c.cap,g.c.used,g.c.closed,.slice s g.c.buf.length d3],.slice A3 n c3,.agg #[g.r.seq,g.r.cs,g.r.code,g.r.value],.slice D3 g.told.length N]) ?_ rfl ?_
   ·simp[results,results294,go_sem,nS,qH]
   ·rw[Z.Y];exact O.e gv
 ·have Q:J=[]:=Decidable.not_not.1 (fun h=>F (.inl h));have I:(dW o 1 p).isSome=false:=by
   cases hh:(dW o 1 p).isSome with
   |false=>rfl
   |true=>exact absurd (.inr hh) F
  have L:ok=false:=a6.trans I;have a8:r=0:=by have:=lD.Y;rw[Q]at this;exact this
  have nX:H=true:=by have:=L2.Y;unfold dt at this;rw[I,Q]at this;simpa using this
  subst nX L Q;have Z:Hid (xm ⟨m,k,true,true,[]⟩ p o 2 va=⟨⟨m,k,true,true,[]⟩,o,bI 9,[]⟩):=by
   have hp:¬((2:Int)=2/\(0<([]:List Int).length\/(dW o 1 p).isSome=true)):=by
    rintro⟨_,h|h⟩
    ·simp at h
    ·rw[I]at h;cases h
   unfold Hid xm;rw[L2.Y,ah ag,ah (fun h=>absurd h.1 ag),ah hp]
  subst a8;clear F I;go_wp2_with fail;go_fit (rH _ G);rintro e U ⟨v,rfl,s,d3,rfl,nR,f⟩;obtain⟨jT,fZ,M,jr⟩:=bN (iC.ai f) (jh.ai f) (ai G f) (aJ.bD nR G.size);clear nR f;go_wp2_with fail;go_fit (pH _ M);rintro e w4 ⟨v,rfl,A4,c4,rfl,z7,D⟩;have vh:=jT.ai D;have R:=fZ.ai D;obtain⟨dR,dK,dN⟩:=af.aM vh;obtain⟨kM,uo,E⟩:=af.aM R;obtain⟨m8,lC,gC,lF,S0⟩:=dh vh R (ai M D) (aJ.ai jr D) (z7.bD (base':=w.heap.size) M.size);clear vh R z7 D;go_wp2_with fail;obtain⟨y,fh,V⟩:=pY.mk' (v1:=[m,k,true,true,.slice s 0 d3]) (v2:=[oZ,oZ,.int .i64 9,oZ]) m8 lC aa rfl rfl;have nc:=y.own lF ag ag;have LX:=y.yR aR S0 ag ag ag ag;have gv:=y.below rfl gC aa aa;change bodyPost _ _ _ _ _ (aw (aw w4 (w.heap.size+1) 0 [m,k,true,true,.slice s 0 d3]) (w.heap.size+1+1) 0 [oZ,oZ,.int .i64 9,oZ]);clear y dR dK dN kM uo E;generalize aw (aw w4 (w.heap.size+1) 0 [m,k,true,true,.slice s 0 d3]) (w.heap.size+1+1) 0 [oZ,oZ,.int .i64 9,oZ]=wz at *;have nS:=fun i=>af.cell fh i;have qH:=fun i=>af.cell V i;refine bodyPost_ret (v:=.tuple #[.agg #[m,k,true,true,.slice s 0 d3],.slice A4 n c4,.agg #[oZ,oZ,.int .i64 9,oZ],oN]) ?_ rfl ?_
  ·simp[results,results294,go_sem,nS,qH]
  ·rw[Z.Y];exact qG.mk' (w:=w) (g:=⟨⟨m,k,true,true,[]⟩,o,bI 9,[]⟩) lD rfl nc LX (Rd.nil _ _) (fun b t=>by cases t) (aS _) gv
end
theorem Em(e:α->α->Bool)(l:List α)(h:l.Nodup):(dX e l).Nodup:=by
 have j:∀(x:α) (l:List α),l.Nodup->x∉l->(ij e x l).Nodup:=by
  intro x l;induction l with
  |nil=>intro _ _;exact List.nodup_cons.2 ⟨aD,List.nodup_nil⟩
  |cons y l i =>
   intro c g;show(if e x y=true then y::ij e x l else x::y::l).Nodup;obtain⟨d,f⟩:=List.nodup_cons.1 c;split
   ·refine List.nodup_cons.2 ⟨fun b=>?_,i f (fun b=>g (List.mem_cons_of_mem _ b))⟩;rcases yO e x y l b with b|b
    ·exact g (b▸List.mem_cons_self)
    ·exact d b
   ·exact List.nodup_cons.2 ⟨g,c⟩
 have k:∀(l a:List α),l.Nodup->a.Nodup->(∀x∈l,x∉a)->(l.foldl (fun a x=>ij e x a) a).Nodup:=by
  intro l;induction l with
  |nil=>intro a _ h _;exact h
  |cons x l i =>
   intro a c o m;obtain⟨d,f⟩:=List.nodup_cons.1 c;refine i _ f (j x a o (m x List.mem_cons_self)) (fun z n b=>?_);rcases yO e x z a b with b|b
   ·exact d (b▸n)
   ·exact m z (List.mem_cons_of_mem _ n) b
 unfold dX;refine(List.Perm.nodup_iff (List.reverse_perm _)).2 (k l [] h List.nodup_nil (fun _ _=>by simp))
theorem L3(xs:List Wt)(a:Int):(qY xs a).Nodup:=Em _ _ (List.nodup_range.sublist List.filter_sublist)
theorem J0{xs:List Wt}(h:t∈qY xs hd):∃x,xs[t]?=some x/\x.on=true/\x.cases.any (G9 hd)=true:=by
 have h:=ou _ _ h;obtain⟨a,b⟩:=List.mem_filter.1 h;have a:=List.mem_range.1 a;have e:xs.getD t iz=xs[t]:=by rw[cZ,cY a];rfl
 rw[e,cA]at b;exact⟨xs[t],cY a,b.1,b.2⟩
theorem QH(h:x.cases.any (G9 hd)=true):jC (G9 hd) x.cases=(nJ x hd:Nat):=by
 unfold nJ;have e:x.cases.findIdx? (fun c=>c.2.1==hd)=x.cases.findIdx? (G9 hd):=rfl;rw[e];rw[<-lW]at h;unfold jC at h ⊢;cases a:x.cases.findIdx? (G9 hd)with
 |none=>rw[a]at h;simp at h
 |some i=>rfl
theorem U9{xs:List Wt}{L:List Nat}(h:t∉L):(L.foldl gY xs)[t]?=xs[t]?:=by
 induction L generalizing xs with
 |nil=>rfl
 |cons a L d=>rw[List.foldl_cons,d (fun c=>h (List.mem_cons_of_mem _ c))];unfold gY;rw[List.getElem?_set_ne (fun b=>h (by rw[b];exact List.mem_cons_self))]
theorem J1{xs:List Wt}{L:List Nat}:(L.foldl gY xs).length=xs.length:=by
 induction L generalizing xs with
 |nil=>rfl
 |cons a L b=>rw[List.foldl_cons,b];unfold gY;rw[cq]
theorem Va{xs:List Wt}{L:List Nat}{P:Wt->Prop}(h:∀x∈xs,P x)(e:P iz):∀x∈L.foldl gY xs,P x:=by
 induction L generalizing xs with
 |nil=>exact h
 |cons a L c =>
  rw[List.foldl_cons];refine c (fun x b=>?_);unfold gY at b;rcases List.mem_or_eq_of_mem_set b with b|b
  ·exact h x b
  ·rw[b];exact e
def nA(xs:List Wt)(a:Int)(j:Nat):List Mo.Told:=((qY xs a).take j).map fun t=>iX xs t (nJ (xs.getD t iz) a) 9 0
theorem He{xs:List Wt}(h:(qY xs hd)[j]?=some t)(a:xs[t]?=some x):nA xs hd (j+1)=nA xs hd j++[⟨t,⟨x.seq,nJ x hd,9,0⟩⟩]:=by
 unfold nA;rw[gy h,List.map_append];have e:xs.getD t iz=x:=by rw[cZ,a];rfl
 unfold iX;rw[List.map_singleton,e]
theorem L4(xs:List Wt)(a:Int)(j:Nat):(nA xs a j).length<=j:=by unfold nA;rw[cW];exact List.length_take_le _ _
section
variable(w:World)
theorem QI(x:Ch)(B:Option Addr)(f d:Nat)(o:f=x.buf.length)(I:f<=90000)(p:bJ w .i64 B x.buf)(A:Option Addr)(c:Nat)(a:List Wt)(y:n=a.length)(E:n<=19)(hr:iu w A a)(u:∀x∈a,x.cases.length<=90000)(l:Int)(s:x.used=true) :
 Calls prog 284 #[.agg #[x.gen,x.cap,x.used,x.closed,.slice B f d],l,.slice A n c] w fun e w'=>e=.returned (xM x l a)/\Below w w w':=by
 have q:=ae (fun k (D:Below w w k)=>Qw k A c a y E (hr.j6 aR D) (fun x F=>bq (u x F) aa) l)
 have g:Hid (xM x l a=(x.closed && decide (f=0) && decide ((qY a l).length=0))):=by unfold Hid xM;rw[s, <-o,Bool.true_and]
 generalize xM x l a=r at *
 clear p y hr u o
 obtain⟨C,v,G,j,J⟩:=x
 have i:G=true:=s
 subst i
 clear s
 dsimp only at *
 have bM:Hid (Below w w (w.alloc (.cells #[C,v,true,j,.slice B f d] 83))):=ak (aj w) _
 cases j with
 |false =>
  have hr:r=false:=by rw[g.Y];rfl
  exact XS
 |true =>
  by_cases h:f=0
  ·subst h;go_enter func284,ntmps284;go_wp2_with fail;go_fit (q _ bM);rintro e L ⟨H,K,rfl,z,b⟩;have t:=ae (ai bM b);clear z b;have hr:r=decide ((qY a l).length=0):=by rw[g.Y];simp
   have m:=ae hr;clear hr;go_wp2;go_ret;exact⟨cr (by rw[m.Y,Bool.eq_iff_iff];simp),t⟩
  ·have hr:r=false:=by rw[g.Y];simp[h]
   have d0:((f:Int)==0)=false:=by simpa using h
   exact XS
end
def acp(g:p9)(n:Nat)(w:World)(e:Ending)(a:World):Prop:=∃B d A c D dd,e=.returned (.tuple #[.agg #[g.c.gen,g.c.cap,g.c.used,g.c.closed,.slice B g.c.buf.length d],.slice A n c,g.r.code,.slice D g.told.length dd])/\lL g n w a B d A c D dd/\Below w w a
theorem pY.one{t:TypeId}{v1:List Value}(a:af w q t c1.toArray)(e:c1.length=v1.length):pY w (aw w q 0 v1) q q t t/\af (aw w q 0 v1) q t v1.toArray:=⟨⟨⟨_,a⟩,⟨_,a⟩,fun _ hq _=>aO hq v1 0,bH _ _ _⟩,aQ a e⟩
theorem lL.of{g:p9}{c:Nat}(f:bl=g.c.buf.length)(a:aJ w base 3 .i64 (.slice B bl d) g.c.buf)(s:lB w base (.slice A n c) g.l)(l:g.told=[]):lL g n base w B d A c none 0:=by subst f;exact⟨a.pP.2,fun b e _=>by subst e;exact xA a,a.cap.2,s,by rw[l];exact Rd.nil _ _,fun b e=>(by cases e),by rw[l];exact aS _⟩
theorem L5{s:Nat}{r:Value}{xs:List Wt}{f:α->List Value}{l:List α}(h:lB w base v xs)(o:aH w s 229 k f r l)(p:w.grownBy w' r.ownBlock):lB w' base v xs:=by
 have i:∀b,iU w b->w'.heap[b]?=w.heap[b]?:=by
  intro b a;refine p.block b a.lt (fun m=>?_);rcases a with⟨d,c,a⟩|⟨d,c,a⟩
  ·exact fk o a ag m
  ·exact fk o a ag m
 refine(aI.move aR h i (fun g e=>?_)).mono aR (fun b a=>?_)
 ·obtain⟨rows,n,j,q⟩:=h;exact p.block g (aX j e).2 (dH j o ag e)
 ·rcases a with⟨d,c,a⟩|⟨d,c,a⟩
  ·exact .inl ⟨d,c,(i b (.inl ⟨d,c,a⟩)).trans a⟩
  ·exact .inr ⟨d,c,(i b (.inr ⟨d,c,a⟩)).trans a⟩
theorem Hf:(prog.info? 229).map (fun i=>(i.zero,i.size,i.bytes))=some (some (.agg #[oZ,oZ,oZ,oZ,oZ]),5,40):=by kernel_rfl
section
variable(w:World)
theorem QJ(x:Ch)(B:Option Addr)(l d:Nat)(F:l=x.buf.length)(SY:l<=90000)(a7:bJ w .i64 B x.buf)(A:Option Addr)(c:Nat)(xs:List Wt)(hn:n=xs.length)(hl:n<=19)(hr:iu w A xs)(hc:∀x∈xs,x.cases.length<=90000)(a:Int)(hu:x.used=true) :
 Calls prog 289 #[.agg #[x.gen,x.cap,x.used,x.closed,.slice B l d],a,.slice A n c] w (acp (pD x a xs) n w):=by
 obtain⟨rH,pH,JX,b5,GY,HC⟩:=cT (fun p (q:Below w w p)=>mq p x B l d F aa (a7.below q)) (fun p (q:Below w w p)=>ji p A c xs hn aa (hr.j6 aR q) (fun x G=>bq (hc x G) aa)) (fun p (q:Below w w p)=>Qw p A c xs hn hl (hr.j6 aR q) (fun x G=>bq (hc x G) aa) a) (fun p (q:Below w w p) (t:Nat) (x:Wt) G (H co va:Int)=>vq p A c xs hn (hr.j6 aR q) (t:=t) (x:=x) G H co va) (fun p (q:Below w w p) (t:Nat) (x:Wt) G=>iu.row (hr.j6 aR q) (j:=t) (x:=x) G) hc
 obtain⟨lD,HN⟩:=av F hn
 unfold ZZ at rH
 rw[<-F]at rH
 clear F a7 hn hr hc
 obtain⟨h,f,us,S,bf⟩:=x
 have cy:us=true:=hu
 subst cy
 clear hu
 dsimp only at *
 have bM:Hid (Below w w (((w.alloc (.cells #[h,f,true,S,.slice B l d] 83)).alloc (.cells #[a] 3)).alloc rB)):=ak (ak (ak (aj w) _) _) _
 have jc:Hid (af (((w.alloc (.cells #[h,f,true,S,.slice B l d] 83)).alloc (.cells #[a] 3)).alloc rB) w 83 #[h,f,true,S,.slice B l d]):=((af.new _ _ _).alloc _).alloc _
 have qI:Hid (af (((w.alloc (.cells #[h,f,true,S,.slice B l d] 83)).alloc (.cells #[a] 3)).alloc rB) (w.heap.size+1) 3 #[a]):=(af.newAt _ _ _ aD).alloc _
 have l7:Hid (af (((w.alloc (.cells #[h,f,true,S,.slice B l d] 83)).alloc (.cells #[a] 3)).alloc rB) (w.heap.size+1+1) 83 #[oZ,oZ,false,false,oN]):=(af.newAt _ _ _ aD)
 go_enter func289,ntmps289
 go_wp2_with fail
 go_fit (rH _ bM)
 rintro e w1 ⟨v,rfl,o,d1,rfl,fM,u⟩
 obtain⟨br,fY,vY,jw,kL⟩:=dh (ai bM u) (jc.ai u) (qI.ai u) (l7.ai u) (aJ.bD fM bM.size)
 clear fM u
 go_wp2_with fail
 go_fit (pH _ br)
 rintro e Q ⟨v,rfl,A2,c2,rfl,gX,s⟩
 obtain⟨bE,ko,gZ,V,ft,sX⟩:=cT (ai br s) (fY.ai s) (vY.ai s) (jw.ai s) (aJ.ai kL s) (gX.bD (base':=w.heap.size) br.size)
 clear gX s bM br jc fY qI vY l7 jw kL
 have gD:=fun i=>af.cell ko i
 have kW:=af.lt ko
 have a8:=fun i=>af.cell gZ i
 have bg:=af.lt gZ
 obtain⟨dR,dK,-⟩:=af.aM V
 have dN:=af.lt V
 cases S with
 |true =>
  have HG:Hid (pD ⟨h,f,true,true,bf⟩ a xs=⟨⟨h,f,true,true,bf⟩,xs,bI 9,[]⟩):=rfl;go_wp2_with fail;obtain⟨J,fh⟩:=pY.one (v1:=[h,f,true,true,.slice o l d1]) V rfl;have AR:=J.own ft ag ag;have a6:=J.yR aR sX ag ag ag ag;have qp:Below w w (aw Q (w.heap.size+1+1) 0 [h,f,true,true,.slice o l d1]):=ax aa _ _ _ bE;clear J gD kW a8 bg dR dK dN;have N:=ak (aj (aw Q (w.heap.size+1+1) 0 [h,f,true,true,.slice o l d1])) (.cells #[h,f,true,true,.slice o l d1] 83);have hP:=lL.of (g:=⟨⟨h,f,true,true,bf⟩,xs,bI 9,[]⟩) lD (aJ.ai AR N) (a6.j6 aR N) rfl;have gv:=ai qp N;have fh:=fh.ai N;clear AR a6 qp N;change bodyPost _ _ _ _ _ ((aw Q (w.heap.size+1+1) 0 [h,f,true,true,.slice o l d1]).alloc (.cells #[h,f,true,true,.slice o l d1] 83));generalize(aw Q (w.heap.size+1+1) 0 [h,f,true,true,.slice o l d1]).alloc (.cells #[h,f,true,true,.slice o l d1] 83)=wz at *;have nS:=fun i=>af.cell fh i;refine bodyPost_ret (v:=.tuple #[.agg #[h,f,true,true,.slice o l d1],.slice A2 n c2,.int .i64 9,oN]) ?_ rfl ?_
  ·simp[results,results289,go_sem,nS]
  ·rw[HG.Y];exact⟨o,d1,A2,c2,none,0,by rw[lD.Y];rfl,hP,gv⟩
 |false =>
  have HG:Hid (pD ⟨h,f,true,false,bf⟩ a xs=⟨⟨h,f,true,true,bf⟩,(qY xs a).foldl gY xs,bI 0,nA xs a (qY xs a).length⟩):=by unfold nA;rw[List.take_of_length_le (aS _)];rfl
  go_wp2_with fail;obtain⟨cM,jT,L6,jr,J2,sY⟩:=cT (ak bE (.cells #[h,f,true,true,.slice o l d1] 83)) (V.alloc (.cells #[h,f,true,true,.slice o l d1] 83)) (gZ.alloc (.cells #[h,f,true,true,.slice o l d1] 83)) (aJ.alloc ft (.cells #[h,f,true,true,.slice o l d1] 83)) (sX.j6 aR (ak (aj Q) (.cells #[h,f,true,true,.slice o l d1] 83))) (af.new Q 83 #[h,f,true,true,.slice o l d1]);have BN:w.heap.size+1+1<Q.heap.size:=V.lt;clear gD kW a8 bg dR dK dN bE V gZ ft sX ko;go_fit (JX _ cM);rintro e w3 ⟨A3,c3,rfl,nR,r⟩;obtain⟨gC,m8,XQ,lF,S0,bY⟩:=cT (ai cM r) (jT.ai r) (L6.ai r) (aJ.ai jr r) (J2.j6 aR r) (sY.ai r);have SM:=ae (aJ.pP nR);clear nR r cM jT L6 jr J2 sY;obtain⟨m,hm⟩:=aG ((qY xs a).length);have SF:m<=n:=by have h1:=Ct xs a xs.length;have h2:=congrArg List.length (Qt xs a);rw[jX,jS,jX]at h2;have:=HN.Y;omega
  rw[<-hm]at HG SM ⊢;have HM:=ae hm;clear hm;go_wp2;go_loopw[11,12,34] (fun v td i wr=>∃(j:Nat) (I:Option Addr) (R:Nat) (D:Option Addr) (T:Nat),j<=m/\i=j/\v=.slice I n R/\td=.slice D (nA xs a j).length T/\Hid (lB wr w (.slice I n R) (((qY xs a).take j).foldl gY xs))/\Hid (aH wr w3 229 5 nz (.slice D (nA xs a j).length T) (nA xs a j))/\Hid (Below w3 w3 wr)) (fun _ _ i _=>m-(intOf i).toNat);case atStart=>exact⟨0,A2,c2,none,0,aV _,rfl,rfl,rfl,S0,aH.nil _ _ _ _ _,aj _⟩
  case round =>
   obtain⟨j,I,R,D,T,hj,rfl,rfl,rfl,HW,HT,C⟩:=hrel;by_cases bz:j<m
   ·obtain⟨t,U⟩:∃t,(qY xs a)[j]?=some t:=⟨_,cY (by rw[<-HM.Y];exact bz)⟩
    obtain⟨y,P,kK,K⟩:=J0 (bX U);obtain⟨ad,z,N,hz,hcell⟩:=bJ.at_ (SM.2.below C) (i:=j) (by rw[jX, <-HM.Y];exact bz);have cC:z=(t:Int):=by unfold fQ at hz;rw[List.getElem?_map,U]at hz;simpa using hz.symm
    subst cC;have QK:t∉(qY xs a).take j:=by
     intro b8;obtain⟨i',vL,he⟩:=List.getElem_of_mem b8;rw[fF]at vL;have h1:(qY xs a)[i']?=some t:=by rw[<-he,List.getElem_take];exact cY aa
     have h2:=(List.getElem?_inj (by have:=dv h1;omega) (L3 xs a)).1 (h1.trans U.symm);omega
    have pX:=ai gC C;obtain⟨cO,D',ct,ND,_,aq,c0,c1,cd,cn⟩:=GY.Y wr pX t y P;have U4:t<n:=by rw[HN.Y];exact dv P
    have vp:y.cases.length<=90000:=HC.Y y (bX P);have E:=ae (yN wr 297 #[.pointer (some ⟨w.heap.size+1,0,none⟩)] (w.heap.size+1) 0 (.inr (.inr ⟨rfl,rfl⟩)) (G9 a) (fun k p q=>ZR p (w.heap.size+1) a (((XQ.ai C).ai q).cell 0) ((XQ.ai C).ai q).lt k) D' ct y.cases _ rfl aq aa);rw[QH K]at E;have HE:=ae (fun p q=>b5 p q t y P (nJ y a:Nat) 9 0);have xd:=(U9 (xs:=xs) QK).trans P;obtain⟨SZ,X⟩:=av (fun p (hX:iu p I (((qY xs a).take j).foldl gY xs))=>ua p I R _ (n:=n) (by rw[J1];exact HN.Y) aa hX (Va (fun x G=>bq (HC x G) aa) (by simp[iz])) xd kK) (He U P);have oL:Hid (((qY xs a).take (j+1)).foldl gY xs=gY (((qY xs a).take j).foldl gY xs) t):=by unfold Hid;rw[gy U,List.foldl_append];rfl
    have NK:=L4 xs a j;subst N ND;clear U P kK K hz QK aq c0 c1 cd xd vp;obtain⟨H,bR⟩:∃H:Nat,H=nJ y a:=⟨_,rfl⟩
    rw[<-bR]at E HE X;clear bR;have i1:(t:Int)<n:=aa;obtain⟨tl,M⟩:=aG ((nA xs a j).length);rw[<-M]at HT NK ⊢;have AH:=ae M;clear M;go_wp2_with fail;refine E.mono ?_;rintro e w5 ⟨rfl,ei⟩;obtain⟨xy,je,L8,zH⟩:=bN (ai C ei) (ai (ai gC C) ei) (HW.j6 aR ei) (HT.ai ei);clear ei E cn;go_wp2_with fail;go_fit (HE _ je);rintro e w6 ⟨rfl,iF⟩;obtain⟨L,Y,QL⟩:=aZ (ak (ai xy iF) (.cells #[t,y.seq,H,.int .i64 9,oZ] 229)) ((L8.j6 aR iF).j6 aR (ak (aj w6) (.cells #[t,y.seq,H,.int .i64 9,oZ] 229))) ((zH.ai iF).alloc (.cells #[t,y.seq,H,.int .i64 9,oZ] 229));clear iF HE xy L8 zH je;have O:=L.size;go_wp2_with(at_builtin;refine cG _ rfl _ _ 186 rfl w3 229 5 40 (.agg #[oZ,oZ,oZ,oZ,oZ]) nz Bf LW underlying186 Hf rfl ag _ (nA xs a j) rfl QL w6 1 1 [⟨t,⟨y.seq,H,9,0⟩⟩] rfl rfl ?c4 ?c5 ?c6 ?c7 ?_)
    case c4=>exact Rd.lit w6 (nz ⟨t,⟨y.seq,H,9,0⟩⟩) _
    case c5=>rw[<-AH.Y];simp;omega
    case c6=>rw[<-AH.Y];simp;omega
    case c7=>simp at O ⊢;omega
    intro v7 w7 J3 Hh cF;clear cF;rw[<-X.Y]at J3;obtain⟨A7,c7,cz⟩:=J3.shape;subst cz;obtain⟨Z,En,S6⟩:=aZ (L5 Y QL Hh) (aH.bh QL L Hh O (aS _)) J3;clear J3 Hh Y QL L O;have hX:iu w7 I (((qY xs a).take j).foldl gY xs):=by
     obtain⟨A9,c9,h9,_,cv⟩:=Z.rdX;injection h9 with h9 h11 h12
     subst h9;exact cv
    have W:=ae (SZ w7 hX);clear hX;go_wp2_with fail;refine W.mono ?_;rintro e w8 ⟨v,rfl,A8,c8,rfl,SX,Dc⟩;obtain⟨Hi,S7,b6⟩:=aZ (ai En Dc) (S6.ai Dc) SX;have b7:Hid (w.heap.size<=w7.heap.size):=bq gC.size En.size;clear SX Dc W SZ Z En S6;go_wp2;go_roundw;case rel=>exact⟨j+1,A8,c8,A7,c7,aa,by go_num,rfl,rfl,by rw[oL.Y];exact b6.bD b7,S7,Hi⟩
    case measure=>simp[intOf];omega
   ·have cw:j=m:=aa;subst cw;have bo:(qY xs a).take j=qY xs a:=List.take_of_length_le (by have:=HM.Y;omega);rw[bo]at HW;have hB:=ai gC C;have hq:=m8.ai C;have hk:=bY.ai C;have hO:=aJ.ai lF C;have HS:=ae gC.size;clear bo;obtain⟨tl,M⟩:=aG ((nA xs a j).length);rw[<-M]at HT ⊢;have AH:=ae M;clear M;obtain⟨dR,dK,dN⟩:=af.aM hq;obtain⟨gD,-,kW⟩:=af.aM hk;obtain⟨HQ,HB,HO⟩:=aZ hq hB hO;clear hq hk hB hO;go_wp2_with fail;obtain⟨J,fh⟩:=pY.one (v1:=[h,f,true,true,.slice o l d1]) HQ rfl;have nc:=J.own HO ag ag;have LX:=J.yR aR HW ag ag ag ag;have Z6:aH _ w3 229 5 nz (.slice D tl T) (nA xs a j):=J.own HT ag ag;have gv:Below w w (aw wr (w.heap.size+1+1) 0 [h,f,true,true,.slice o l d1]):=ax aa _ _ _ HB;clear J gD kW dR dK dN;change bodyPost _ _ _ _ _ (aw wr (w.heap.size+1+1) 0 [h,f,true,true,.slice o l d1]);generalize aw wr (w.heap.size+1+1) 0 [h,f,true,true,.slice o l d1]=wz at *;have nS:=fun i=>af.cell fh i;refine bodyPost_ret (v:=.tuple #[.agg #[h,f,true,true,.slice o l d1],.slice I n R,oZ,.slice D tl T]) ?_ rfl ?_
    ·simp[results,results289,go_sem,nS]
    ·rw[HG.Y];have NK:=AH.Y;subst NK;refine⟨o,d1,I,R,D,T,by rw[lD.Y];rfl,⟨?_,?_,?_,LX,(aH.zX Z6).2,?_,?_⟩,gv⟩
     ·have:=lD.Y;subst this;exact(aJ.pP nc).2
     ·intro b q _;subst q;exact xA nc
     ·have:=(aJ.cap nc).2;have:=lD.Y;subst this;assumption
     ·intro b q _;subst q;exact vo Z6
     ·have:=(aH.cap Z6).2;exact this
end
theorem pU.row{xs:List Ch}(h:pU w A xs){x:Ch}(l:xs[j]?=some x):∃a B d,A=some a/\x.buf.length<=d/\bJ w .i64 B x.buf /\
 w.cell? (a.add (j*5))=some (.int .i64 x.gen)/\w.cell? ⟨(a.add (j*5)).block,(a.add (j*5)).off+1,none⟩=some (.int .i64 x.cap)/\w.cell? ⟨(a.add (j*5)).block,(a.add (j*5)).off+2,none⟩=some (.bool x.used)/\w.cell? ⟨(a.add (j*5)).block,(a.add (j*5)).off+3,none⟩=some (.bool x.closed)/\w.cell? ⟨(a.add (j*5)).block,(a.add (j*5)).off+4,none⟩=some (.slice B x.buf.length d):=by
 obtain⟨a,q,r,k,b,m,p,hcell⟩:=kF.at_ ag h (dv l)
 rw[l]at b
 injection b with b
 subst b
 obtain⟨B,d,rfl,o,n⟩:=m
 have i:=hcell 0 _ rfl
 have c:=hcell 1 _ rfl
 have e:=hcell 2 _ rfl
 have f:=hcell 3 _ rfl
 have g:=hcell 4 _ rfl
 rw[add_lit _ _ ag]at c e f g
 exact⟨a,B,d,k,o,n.1,i,c,e,f,g⟩
def nY(c:bA)(A:Option Addr)(n k:Nat)(t a:Int)(e:Int)(v1 v2 v3:Value):Array Value :=#[e,v1,v2,v3,c.kind,c.threads,c.chans,c.cap,c.nodes,c.aL,c.aF,c.tags,c.bG,c.bt,.slice A n k,t,a]
structure ed (w:World) (base g:Nat) (c:Mo.bA) (A:Option Addr) (n k:Nat) (t sq:Int) (h:Mo.Hl) (A1 A2 A3:Option Addr) (m1 m2 m3:Nat):Prop where
 blk:af w g 287 (nY c A n k t sq h.az (.slice A1 h.chans.length m1) (.slice A2 h.waits.length m2) (.slice A3 h.done.length m3))
 chans:Qm w base (.slice A1 h.chans.length m1) h.chans
 waits:lB w base (.slice A2 h.waits.length m2) h.waits
 done:aH w base 48 4 ej (.slice A3 h.done.length m3) h.done
 low:base<=g
structure Vb (h:Mo.Hl):Prop where
 chans:h.chans.length<=8
 waits:h.waits.length<=19
 done:h.done.length<=19
 buf:∀x∈h.chans,x.buf.length<=90000
 cases:∀x∈h.waits,x.cases.length<=90000
 gen:∀x∈h.chans,0<=x.gen/\x.gen<=100000
section
variable{w w':World} {base g:Nat} {c:Mo.bA} {A:Option Addr} {n k:Nat} {t sq:Int} {h:Mo.Hl} {A1 A2 A3:Option Addr} {m1 m2 m3:Nat}
theorem ed.more(H:ed w base g c A n k t sq h A1 A2 A3 m1 m2 m3)(a:Below w w w'):ed w' base g c A n k t sq h A1 A2 A3 m1 m2 m3:=⟨H.blk.ai a,H.chans.j6 cP a,H.waits.j6 aR a,H.done.ai a,H.low⟩
theorem aI.Ma{P:sU α}{e:TypeId}{A:Option Addr}{n c:Nat}(h:aI e m P w base S (.slice A n c) xs):kF m P w S A xs:=by
 obtain⟨d,f,b,_,a⟩:=h.rdX;injection b with b h11 h12
 subst b;exact a
theorem ed.Fy(H:ed w base g c A n k t sq h A1 A2 A3 m1 m2 m3):pU w A1 h.chans:=H.chans.Ma
theorem ed.XT(H:ed w base g c A n k t sq h A1 A2 A3 m1 m2 m3):iu w A2 h.waits:=H.waits.Ma
end
section
variable(w:World)
theorem oz(s:Int)(u:Option Addr)(F:Nat)(l:List Ch){o:Nat}(G:o=l.length)(f:pU w u l)(C E:Value)(z:List Wt)(y:List Rs)(a:Int) :
 Calls prog 283 #[.agg #[s,.slice u o F,C,E],a] w fun e w'=>e=.returned (.tuple #[((bW ⟨s,l,z,y⟩ a).getD 0:Nat),.bool (bW ⟨s,l,z,y⟩ a).isSome])/\Below w w w':=by
 have Cw:=ae (fun O=>xO O a)
 have b:(eO a).2.2=true->0<=(eO a).1/\(eO a).1<8:=by
  unfold eO;split
  ·intro h;cases h
  ·intro _;dsimp only;omega
 have g:Hid (bW ⟨s,l,z,y⟩ a=if(eO a).2.2=false then none else match l[(eO a).1.toNat]? with|none=>none|some x=>if x.used=true/\x.gen=(eO a).2.1 then some (eO a).1.toNat else none):=rfl
 generalize bW ⟨s,l,z,y⟩ a=r at *
 generalize eO a=q at *
 obtain⟨v,i,N⟩:=q
 dsimp only at *
 obtain⟨A,n⟩:=av (fun(j:Nat) (x:Ch) c=>pU.row (f.j6 cP (ak (aj w) (.cells #[s,.slice u o F,C,E] 71))) (j:=j) (x:=x) c) G
 clear G f
 have bM:Hid (Below w w (w.alloc (.cells #[s,.slice u o F,C,E] 71))):=ak (aj w) _
 cases N with
 |false=>have f:r=none:=g.Y;subst f;clear b;exact aad
 |true =>
  obtain⟨K,L⟩:=b rfl;clear b;obtain⟨p,rfl⟩:∃p:Nat,v=(p:Int):=⟨v.toNat,aa⟩
  rw[gu]at g;by_cases m:p<o
  ·obtain⟨x,c⟩:∃x,l[p]?=some x:=⟨_,cY (by rw[<-n.Y];exact m)⟩
   obtain⟨Q,B,d,J,_,_,R,D,t,H,I⟩:=A.Y p x c;have P:=ae c;have k:Hid (r=if x.used=true/\x.gen=i then some p else none):=by unfold Hid;rw[g.Y,ah ag,c]
   subst J;clear c D H I;have M:(p:Int)<o:=aa;cases hu:x.used with
   |false =>
    rw[hu]at t;have f:r=none:=by rw[k.Y,hu];rfl
    subst f;clear hu;exact aad
   |true =>
    rw[hu]at t;by_cases hg:x.gen=i
    ·have f:r=some p:=by rw[k.Y,hu,au ⟨rfl,hg⟩]
     subst f;have d1:(x.gen !=i)=false:=by simpa using hg
     exact acq
    ·have f:r=none:=by rw[k.Y,ah (fun h=>hg h.2)]
     subst f;have d1:(x.gen !=i)=true:=by simpa using hg
     exact acq
  ·have f:r=none:=by rw[g.Y,ah ag,List.getElem?_eq_none (by have:=n.Y;omega)]
   subst f;have M:(o:Int)<=p:=aa;exact aad
end
structure ud (w wr:World) (base g3 n3 m3:Nat) (L:List Mo.Rs):Prop where
 own:aH wr base 48 4 ej (.slice g3 n3 m3) L
 rest:∀b,b<w.heap.size->b≠g3->wr.heap[b]?=w.heap[b]?
 ext:Below base w wr
 size:w.heap.size<=wr.heap.size
 low:base<=g3
theorem ud.more{L:List Rs}(h:ud w wr base g3 n3 m3 L)(a:Below wr wr w')(e:base<=w.heap.size):ud w w' base g3 n3 m3 L:=⟨h.own.ai a,fun b c d=>(a.block b (bL c h.size)).trans (h.rest b c d),h.ext.trans (a.mono (bq e h.size)),bq h.size a.size,h.low⟩
theorem aH.setRow{c:Nat}{e:TypeId}{f:α->List Value}(a:∀x,(f x).length=m)(h:aH w base e m f (.slice g n c) xs)(l:i<xs.length)(y:α)(h1:∀x,∀u∈f x,u.oneCell'=true) :
 aH (aw w g (i*m) (f y)) base e m f (.slice g n c) (xs.set i y):=by
 have k:=h.cap.1
 subst k
 have h2:aH w base e m eA (.slice g xs.length c) (xs.map (jD f a h1)):=aH.rows.2 h
 unfold aH at h2
 rw[cW]at h2
 have d:=tZ (f y) w (i*m) _ h2
 have b:=vn (xs.map (jD f a h1)) i (jD f a h1 y) (by simpa using l)
 have j:(jD f a h1 y).val=f y:=rfl
 rw[j]at b
 rw[b, <-List.map_set]at d
 refine(aH.rows (h1:=a) (h2:=h1)).1 ?_
 unfold aH
 rw[cW,cq]
 exact d
theorem ud.put{L:List Rs}(h:ud w wr base g3 n3 m3 L)(e:i<L.length)(y:Rs):ud w (aw wr g3 (i*4) (ej y)) base g3 n3 m3 (L.set i y):=⟨h.own.setRow cX e y qs,fun b c a=>(aO a _ _).trans (h.rest b c a),ax h.low _ _ _ h.ext,by rw[bH];exact h.size,h.low⟩
def acr(w:World)(base a l f:Nat)(L:List Rs)(e:Ending)(o:World):Prop:=e=.returned (.tuple #[])/\ud w o base a l f L
theorem Hj{d:List Rs}{a:List Mo.Told}{y:Mo.Told}(h:a[j]?=some y):fV d (a.take (j+1))=(fV d (a.take j)).set y.th y.res:=by unfold fV;rw[gy h,List.foldl_append];rfl
theorem mr(d:List Rs)(a:List Mo.Told):(fV d a).length=d.length:=by
 unfold fV;induction a generalizing d with
 |nil=>rfl
 |cons y a b=>rw[List.foldl_cons,b,cq]
section
variable(w:World)
theorem QM(o:w.cell? ⟨g,3,none⟩=some (.slice g3 n3 m3))(z:g<w.heap.size)(F:g≠g3)(l:base<=w.heap.size)(d:List Rs)(r:ud w w base g3 n3 m3 d)(D:Option Addr)(Z:Nat)(e:List Mo.Told)(G:n=e.length)(hl:n<=100)(H:dI w nz D e)(C:∀b,D=some b->e≠[]->b.block≠g3)(I:∀x∈e,x.th<d.length) :
 Calls prog 290 #[.pointer g,.slice D n Z] w (acr w base g3 n3 m3 (fV d e)):=by
 obtain⟨Q,A,k,O⟩:=bN r G I (fun(wr:World) (L:List Rs) (h:ud w wr base g3 n3 m3 L)=>Rd.move (U:=fun b=>b=g3) H h.rest (fun E ha s=>C E ha (fun he=>s (by rw[he];rfl))))
 have B:=ae (fun(wr:World) (L:List Rs) (h:ud w wr base g3 n3 m3 L)=>(show wr.cell? ⟨g,3,none⟩=some (.slice g3 n3 m3)by
  have:=h.rest g z F;unfold World.cell? at o ⊢;dsimp only at o ⊢;rw[this];exact o))
 have K:n3=d.length:=r.own.cap.1
 have p:=ae K
 clear o G I H C r K F
 go_enter func290,ntmps290
 go_wp2
 go_loopw[8] (fun i wr=>∃j:Nat,j<=n/\i=j/\Hid (ud w wr base g3 n3 m3 (fV d (e.take j)))) (fun i _=>n-(intOf i).toNat)
 case atStart=>exact⟨0,aV _,rfl,Q⟩
 case round =>
  obtain⟨j,hj,rfl,a⟩:=hrel;by_cases q:j<n
  ·obtain⟨E,y,hA,u,hcell⟩:=dI.at_ Bf ag (O wr _ a) (i:=j) (by rw[<-A.Y];exact q);have T:=hcell 0 _ rfl;have V:=hcell 1 _ rfl;have W:=hcell 2 _ rfl;have X:=hcell 3 _ rfl;have Y:=hcell 4 _ rfl;rw[add_zero]at T;rw[add_lit _ _ ag]at V W X Y;subst hA;have f:y.th<n3:=by rw[p.Y];exact k.Y y (bX u)
   obtain⟨P,J⟩:=av (Hj (d:=d) u) (a.more (ak (aj wr) (.cells #[y.th,y.res.seq,y.res.cs,y.res.code,y.res.value] 229)) l);have t:(wr.alloc (.cells #[y.th,y.res.seq,y.res.cs,y.res.code,y.res.value] 229)).cell? ⟨g,3,none⟩=_:=B.Y _ _ J;have aq:g3<wr.heap.size:=by have:=vo a.own;exact this.lt
   have LL:=bL z a.size;have S:=B.Y _ _ a;obtain⟨M,c⟩:∃M,(fV d (e.take j))[y.th]?=some M:=⟨_,cY (by rw[mr, <-p.Y];exact f)⟩
   have q0:=aH.cells cX a.own c (j:=0) rfl;have q1:=aH.cells cX a.own c (j:=1) rfl;have q2:=aH.cells cX a.own c (j:=2) rfl;have q3:=aH.cells cX a.own c (j:=3) rfl;rw[Nat.add_zero]at q0;have f0:=aH.frozen a.own (y.th*4);have f1:=aH.frozen a.own (y.th*4+1);have f2:=aH.frozen a.own (y.th*4+2);have f3:=aH.frozen a.own (y.th*4+3);have t0:(0:Int)<=(y.th:Int):=aa;have t1:(y.th:Int)<(n3:Int):=aa;have m:Hid (y.th<(fV d (e.take j)).length):=by unfold Hid;rw[mr, <-p.Y];exact f
   clear u hcell c t;go_wp2_with fail;go_quiet(fail);go_wp2;go_region;all_goals
    go_wp2;go_roundw;case rel=>exact⟨j+1,aa,by go_num,by rw[P.Y];exact(J.more (bV (aj _) _) l).put m y.res⟩
    case measure=>simp[intOf];omega
  ·have N:j=n:=aa;subst N;have v:=a.Y;rw[List.take_of_length_le (by have:=A.Y;omega)]at v;have R:=ae v;clear v;go_wp2;go_end0;exact⟨rfl,R⟩
end
def Bh(g a:Nat)(h:Hl)(e f l:Option Addr)(o p r:Nat):Prop:=g<a/\(∀b,(Value.slice e h.chans.length o).ownBlock=some b->b<a)/\(∀b,(Value.slice f h.waits.length p).ownBlock=some b->b<a)/\∀b,(Value.slice l h.done.length r).ownBlock=some b->b<a
theorem aI.lt{P:sU α}{e:TypeId}(h:aI e m P w base S v xs)(l:v.ownBlock=some b):base<=b/\b<w.heap.size:=by obtain⟨rows,c,a,d⟩:=h;exact aX a l
section
variable{w w':World} {base g:Nat} {c:Mo.bA} {A:Option Addr} {n k:Nat} {t sq:Int} {h:Mo.Hl} {A1 A2 A3:Option Addr} {m1 m2 m3:Nat}
theorem ed.wH(H:ed w base g c A n k t sq h A1 A2 A3 m1 m2 m3):Bh g w h A1 A2 A3 m1 m2 m3:=⟨H.blk.lt,fun _ a=>(H.chans.lt a).2,fun _ a=>(H.waits.lt a).2,fun _ a=>(aX H.done a).2⟩
theorem ed.bO(H:ed w base g c A n k t sq h A1 A2 A3 m1 m2 m3){e:Nat}(C:Bh g e h A1 A2 A3 m1 m2 m3)(hq:e<=q){f:TypeId}{G:Array Value}(F:af w q f G)(r:f≠3)(u:f≠110)(o:Nat)(vs:List Value):ed (aw w q o vs) base g c A n k t sq h A1 A2 A3 m1 m2 m3:=by
 obtain⟨p,j,l,m⟩:=C;have d:∀b,iU w b->b≠q:=fun b a i=>by subst i;exact iU.not F r u a
 refine⟨ba H.blk aa _ _,?_,?_,cm (fun b a=>by have:=m b a;omega) _ _ _ _ H.done,H.low⟩
 ·exact(aI.move cP H.chans (fun b a=>aO (d b a) _ _) (fun b a=>aO (by have:=j b a;omega) _ _)).mono cP (fun b a=>fN _ _ _ a)
 ·exact(aI.move aR H.waits (fun b a=>aO (d b a) _ _) (fun b a=>aO (by have:=l b a;omega) _ _)).mono aR (fun b a=>fN _ _ _ a)
theorem ed.QN{e:Nat}(H:ed w base g c A n k t sq h e A2 A3 m1 m2 m3)(C:i<h.chans.length)(y:Ch)(B:Option Addr)(d:Nat)(z:y.buf.length<=d)(E:bJ w .i64 B y.buf)(r:∀b,B=some b->y.buf≠[]->Ty w 3 b.block) :
 ed (aw w e (i*5) [y.gen,y.cap,y.used,y.closed,.slice B y.buf.length d]) base g c A n k t sq {h with chans:=h.chans.set i y} e A2 A3 m1 m2 m3:=by
 obtain⟨x,hg,v⟩:=H.chans.ty
 have m:¬iU w e:=iU.not hg ag ag
 have p:g≠e:=by exact aae
 refine⟨?_,?_,?_,?_,H.low⟩
 ·rw[cq];exact ba H.blk p _ _
 ·rw[cq];exact(H.chans.LJ cP C _ rfl (by intro u l;simp at l;rcases l with rfl|rfl|rfl|rfl|rfl<;>rfl) m (y:=y) ⟨B,d,rfl,z,E,fun o s j=>.inl (r o s j)⟩).mono cP (fun b a=>fN _ _ _ a)
 ·exact(aI.move aR H.waits (fun b a=>aO (fun f=>by subst f;exact m a) _ _) (fun b a=>aO (fun f=>by
   subst f
   obtain⟨rows,_,q,_⟩:=H.waits
   exact fk q hg ag a.symm) _ _)).mono aR (fun b a=>fN _ _ _ a)
 ·exact cm (fun b a f=>by subst f;exact fk H.done hg ag a.symm) _ _ _ _ H.done
end
theorem Vc(A:Option Addr)(n m e a:Nat):(Value.slice A n m).ownBlock=(Value.slice A e a).ownBlock:=by cases A<;>rfl
def lG(w:World)(g:Nat)(v1 v3:Value)(a:World):Prop:=∀b,b<w.heap.size->b≠g->v1.ownBlock≠some b->v3.ownBlock≠some b->a.heap[b]?=w.heap[b]?
def FrH(w:World)(g:Nat)(e:World):Prop:=∀a b,w.cell? ⟨g,1,none⟩=some a->w.cell? ⟨g,3,none⟩=some b->lG w g a b e
section
variable{w w1 w2:World} {g:Nat} {v1 v3:Value}
theorem lG.ext(h:Below w w w1):lG w g v1 v3 w1:=fun b a _ _ _=>h.block b a
theorem lG.more(h:lG w g v1 v3 w1)(l:w.heap.size<=w1.heap.size)(f:Below w1 w1 w2):lG w g v1 v3 w2:=fun b a c d e=>(f.block b aa).trans (h b a c d e)
theorem lG.drew(h:lG w g v1 v3 w1):lG w g v1 v3 w1.drew:=h
theorem lG.QO(h:lG w g v1 v3 w1)(o:Nat)(vs:List Value):lG w g v1 v3 (aw w1 g o vs):=fun b c a d e=>(aO a _ _).trans (h b c a d e)
theorem lG.Vd(h:lG w g v1 v3 w1)(l:v1.ownBlock=some q)(o:Nat)(vs:List Value):lG w g v1 v3 (aw w1 q o vs):=fun b c d a f=>(aO (fun e=>a (by rw[l,e])) _ _).trans (h b c d a f)
theorem lG.new(h:lG w g v1 v3 w1)(hq:w.heap.size<=q)(o:Nat)(vs:List Value):lG w g v1 v3 (aw w1 q o vs):=fun b a c d e=>(aO aa _ _).trans (h b a c d e)
theorem lG.tell(h:lG w g v1 v3 w1)(p:w.heap.size<=w1.heap.size)(l:∀b,b<w1.heap.size->some b≠v.ownBlock->w2.heap[b]?=w1.heap[b]?)(o:v.ownBlock=v3.ownBlock):lG w g v1 v3 w2:=fun b c d f a=>(l b aa (fun e=>a (by rw[<-o,e]))).trans (h b c d f a)
end
theorem ed.S8{t:Int}(H:ed w base g c A n k t sq h A1 A2 A3 m1 m2 m3)(e:World)(f:lG w g (.slice A1 h.chans.length m1) (.slice A3 h.done.length m3) e):FrH w g e:=by
 intro d i a b;rw[H.blk.cell 1]at a;rw[H.blk.cell 3]at b;injection a with a
 injection b with b
 subst a;subst b;exact f
theorem ed.frX{t:Int}(H:ed w base g c A n k t sq h A1 A2 A3 m1 m2 m3)(a:FrH w g w'):lG w g (.slice A1 h.chans.length m1) (.slice A3 h.done.length m3) w':=a _ _ (H.blk.cell 1) (H.blk.cell 3)
def NL(base g:Nat)(c:bA)(A:Option Addr)(n k:Nat)(t s:Int)(f l:Option Addr)(o r:Nat)(p:Hl×Rs)(w:World)(e:Ending)(a:World):Prop:=e=.returned (.agg #[p.2.seq,p.2.cs,p.2.code,p.2.value])/\(∃A2 m2,ed a base g c A n k t s p.1 f A2 l o m2 r)/\Below base w a/\FrH w g a
theorem Hk{B:Nat}{a:World}(h:Below B a w)(e:B<=w.heap.size)(o:Obj):Below B a (w.alloc o):=h.alloc e o
def QP(h:Hl)(a:Int):Sum Nat Int->Hl×Rs
 |.inl i=>({h with chans:=h.chans.set i ⟨(gm h i).gen+1,a,true,false,[]⟩},⟨0,0,0,nh i ((gm h i).gen+1)⟩)
 |.inr e=>(h,bI e)
theorem Eo{l:List Ch}{b:Bool}{x:Ch}(e:l[i]?=some x)(a:x.used=true):fA bt l i b (k+1)=fA bt l (i+1) b k:=by rw[fA];rw[e];dsimp only;rw[au a]
theorem Cx{l:List Ch}{b:Bool}{x:Ch}(f:l[i]?=some x)(e:x.used=false)(a:min bt 4095<=x.gen):fA bt l i b (k+1)=fA bt l (i+1) true k:=by rw[fA];rw[f];dsimp only;rw[ah (by rw[e];decide),au a]
theorem Hm{l:List Ch}{b:Bool}{x:Ch}(f:l[i]?=some x)(e:x.used=false)(a:¬min bt 4095<=x.gen):fA bt l i b (k+1)=.inl i:=by rw[fA];rw[f];dsimp only;rw[ah (by rw[e];decide),ah a]
section
variable(w:World) {base g:Nat} {c:Mo.bA} {A:Option Addr} {n k:Nat} {t sq:Int} {h:Mo.Hl} {A1 A2 A3:Option Addr} {m1 m2 m3:Nat}
theorem QQ(H:ed w base g c A n k t sq h A1 A2 A3 m1 m2 m3)(hb:Vb h)(pS:c.bt<=4095)(a:Int) :
 Calls prog 274 #[.pointer g,a] w (NL base g c A n k t sq A1 A3 m1 m3 (rQ c h a) w):=by
 have y:Hid (Below w w (w.alloc jo)):=ak (aj w) _
 have l7:Hid (af (w.alloc jo) w 48 #[oZ,oZ,oZ,oZ]):=af.new _ _ _
 obtain⟨qI,rh,HH,ue⟩:=bN (H.more y) H.wH H H.S8
 have z:base<=w.heap.size:=bq H.low (Nat.le_of_lt H.blk.lt)
 obtain⟨F,-,gO⟩:=af.aM qI.blk
 unfold nY at F
 have LL:g<w.heap.size:=H.blk.lt
 have Fu:=ae hb
 clear H hb
 by_cases aB:a<0\/c.cap<a
 ·have I:Hid (rQ c h a=(h,bI 1)):=by unfold Hid rQ;rw[au aB]
  rw[I.Y];have a6:Hid (Below base w (w.alloc (qX 0 0 1 0))):=(ak (aj w) _).mono z;have a7:=ae (HH.more (ak (aj w) (qX 0 0 1 0)));have n9:NL base g c A n k t sq A1 A3 m1 m3 (h,bI 1) w (.returned (.agg #[oZ,oZ,.int .i64 1,oZ])) (w.alloc (qX 0 0 1 0)):=⟨rfl,⟨_,_,a7⟩,a6,ue _ (.ext (ak (aj w) _))⟩
  by_cases h0:a<0
  ·exact acu
  ·have h1:c.cap<a:=aB.resolve_left h0;exact acu
 ·have a1:¬a<0:=fun h=>aB (.inl h);have a2:¬c.cap<a:=fun h=>aB (.inr h);obtain⟨R,G⟩:=aG (fA c.bt h.chans 0 false h.chans.length);have I:Hid (rQ c h a=QP h a R):=by
   unfold Hid rQ;rw[ah aB,G];unfold QP;rfl
  have HR:=ae G.symm;clear aB G;go_enter func274,ntmps274;go_wp2_with fail;obtain⟨m,nX⟩:=aG h.chans.length;have iH:=ae nX;rw[<-nX]at HR ⊢;have bz:m<=8:=by rw[nX];exact Fu.chans
  clear nX;have bR:Hid (ed (w.alloc jo) base g c A n k t sq h A1 A2 A3 m1 m2 m3):=qI.Y;go_loopw[5,26] (fun b i wr=>∃(j:Nat) (s:Bool),j<=m/\i=j/\b=s/\Hid (Below (w.heap.size+1) (w.alloc jo) wr)/\Hid (fA c.bt h.chans j s (m-j)=R)) (fun _ i _=>m-(intOf i).toNat);case atStart=>exact⟨0,false,aV _,rfl,rfl,Below.refl _ _,by unfold Hid;rw[Nat.sub_zero];exact HR.Y⟩
  case round =>
   obtain⟨j,s,hj,rfl,rfl,f,U⟩:=hrel;have C:Below (w.alloc jo).heap.size (w.alloc jo) wr:=f.mono aD;obtain⟨l,E⟩:=av (qI.more C) (l7.ai C);obtain⟨F,-,gO⟩:=af.aM l.blk;unfold nY at F;clear C;by_cases bg:j<m
   ·obtain⟨x,hx⟩:∃x,h.chans[j]?=some x:=⟨_,cY (by rw[<-iH.Y];exact bg)⟩
    obtain⟨ad,B,d,hA,Ep,mV,c0,c1,L,c3,W⟩:=pU.row l.Fy hx;have bY:=Fu.gen x (bX hx);have u:=ae hx;subst hA;clear hx Ep mV;generalize x.buf.length=V at W;have D:m-j=(m-(j+1))+1:=aa;rcases r:x.used with _|_
    ·rw[r]at L;by_cases T:c.bt<=x.gen
     ·have HN:Hid (fA c.bt h.chans (j+1) true (m-(j+1))=R):=by
       unfold Hid;rw[<-U.Y,D,Cx u.Y r aa]
      have a3:¬4095<c.bt:=aa
      have d1:decide (c.bt<=x.gen)=true:=eE T
      clear r D T
      go_wp2_with fail
      go_quiet(fail)
      go_wp2
      go_roundw
      case rel=>exact⟨j+1,true,aa,by go_num,rfl,bV (Hk f (by have:=f.size;simp at this;omega) _) _,HN⟩
      case measure=>simp[intOf];omega
     ·obtain⟨o,mm,p,a8,S⟩:=l.chans.form (by have:=bX u;intro he;rw[he]at this;cases this);injection p with e1 e2 e3
      injection e1 with e1
      subst e1 e3;clear e2;have G:R=.inl j:=by rw[<-U.Y,D,Hm u.Y r aa]
      have Q:gm h j=x:=by unfold gm;rw[cZ,u.Y];rfl
      have JZ:Hid (rQ c h a=({h with chans:=h.chans.set j ⟨x.gen+1,a,true,false,[]⟩},⟨0,0,0,nh j (x.gen+1)⟩)):=by unfold Hid;rw[I.Y,G];unfold QP;dsimp only;rw[Q]
      have f0:=l.chans.cR (j*5);have f1:=l.chans.cR (j*5+1);have f2:=l.chans.cR (j*5+2);have f3:=l.chans.cR (j*5+3);have f4:=l.chans.cR (j*5+4);rw[oP,Nat.zero_add]at c0 c1 L c3 W;dsimp only at c1 L c3 W;have a3:¬4095<c.bt:=aa;have d1:decide (c.bt<=x.gen)=false:=bU T;have e5:IntKind.i64.wrap (x.gen+1)=x.gen+1:=cD _ aa;have t0:(0:Int)<=(j:Int):=aa;have t1:(j:Int)<(m:Int):=aa;have aq:=ae (fun wx=>Dp wx j (x.gen+1));have t2:j<h.chans.length:=dv u;clear r D T G Q;go_wp2_with fail;go_quiet(fail);go_wp2_with fail;clear d1 a3;go_region;all_goals
       go_wp2_with fail;have Ve:Bh g w {h with chans:=h.chans.set j ⟨x.gen+1,a,true,false,[]⟩} o A2 A3 m1 m2 m3:=by unfold Bh;dsimp only;rw[cq];exact rh.Y
       have N:=bV (ak (aj wr) (.cells #[x.gen,x.cap,false,x.closed,.slice B V d] 83)) (n:=nq+1);have O:=l.more N;have yw:=E.ai N;have bo:o<w.heap.size:=rh.2.1 o rfl;have P:=O.QN (i:=j) (dv u) ⟨x.gen+1,a,true,false,[]⟩ none 0 (aS _) (bJ.nil _ _ _) (fun b hb=>by cases hb);have uk:=ba yw (b:=w.heap.size) (g:=o) aa [.int .i64 (x.gen+1),a,true,false,oN] (j*5);have qp:Below base w (aw (World.drewN (wr.alloc (.cells #[x.gen,x.cap,false,x.closed,.slice B V d] 83)) (nq+1)) o (j*5) [.int .i64 (x.gen+1),a,true,false,oN]):=ax a8 _ _ _ ((y.mono z).trans ((f.mono aa).trans (N.mono (by have:=f.size;simp at this;omega))));have um:=ae (lG.Vd (q:=o) (v1:=.slice o h.chans.length m1) (v3:=.slice A3 h.done.length m3) (g:=g) (lG.ext (y.trans ((f.mono (cj _)).trans (N.mono (by have:=f.size;simp at this;omega))))) rfl (j*5) [.int .i64 (x.gen+1),a,true,false,oN]);change Calls _ _ _ (aw (World.drewN (wr.alloc (.cells #[x.gen,x.cap,false,x.closed,.slice B V d] 83)) (nq+1)) o (j*5) [.int .i64 (x.gen+1),a,true,false,oN]) _;clear N O yw F gO c0 c1 L c3 W f0 f1 f2 f3 f4 t0 t1 t2 S;generalize aw (World.drewN (wr.alloc (.cells #[x.gen,x.cap,false,x.closed,.slice B V d] 83)) (nq+1)) o (j*5) [.int .i64 (x.gen+1),a,true,false,oN]=wy at *;obtain⟨zI,jT,cM,J⟩:=bN P uk qp Ve;clear P uk qp Ve;go_fit (aq _);rintro e wz ⟨rfl,rfl⟩;generalize nh j (x.gen+1)=p at JZ ⊢;clear e5;obtain⟨Z,X,Y⟩:=af.aM jT;go_wp2_with fail;have M:=aQ (vs:=[oZ,oZ,oZ,p]) jT rfl;have xC:=zI.bO J (aS _) jT ag ag 0 [oZ,oZ,oZ,p];have gv:=ax z [oZ,oZ,oZ,p] _ 0 cM;have xD:=ue.Y _ (um.new (q:=w.heap.size) (aS _) 0 [oZ,oZ,oZ,p]);change bodyPost _ _ _ _ _ (aw wy w 0 [oZ,oZ,oZ,p]);clear Z X Y;generalize aw wy w 0 [oZ,oZ,oZ,p]=wz at *;have fH:=fun i=>af.cell M i;refine bodyPost_ret (v:=.agg #[oZ,oZ,oZ,p]) ?_ rfl ?_
       ·exact aag
       ·exact QR
    ·rw[r]at L;have HN:Hid (fA c.bt h.chans (j+1) s (m-(j+1))=R):=by
      unfold Hid;rw[<-U.Y,D,Eo u.Y r]
     clear r D;go_wp2;go_roundw;case rel=>exact⟨j+1,s,aa,by go_num,rfl,Hk f (by have:=f.size;simp at this;omega) _,HN⟩
     case measure=>simp[intOf];omega
   ·have Ac:m-j=0:=aa;have K:=U.Y;rw[Ac]at K;obtain⟨Z,X,Y⟩:=af.aM E;clear Ac;rcases s with _|_
    ·have zC:Hid (R=.inr 6):=by unfold Hid;rw[<-K];unfold fA;rfl
     clear K;go_wp2_with fail;have M:=aQ (vs:=[oZ,oZ,.int .i64 6,oZ]) E rfl;have xC:=l.bO rh (aS _) E ag ag 0 [oZ,oZ,.int .i64 6,oZ];have gv:Below base w (aw wr w 0 [oZ,oZ,.int .i64 6,oZ]):=ax z _ _ _ ((y.mono z).trans (f.mono aa));have xD:=ue.Y _ ((lG.ext (y.trans (f.mono (cj _)))).new (q:=w.heap.size) (aS _) 0 [oZ,oZ,.int .i64 6,oZ]);change bodyPost _ _ _ _ _ (aw wr w 0 [oZ,oZ,.int .i64 6,oZ]);clear Z X Y F gO;generalize aw wr w 0 [oZ,oZ,.int .i64 6,oZ]=wz at *;have fH:=fun i=>af.cell M i;refine bodyPost_ret (v:=.agg #[oZ,oZ,.int .i64 6,oZ]) ?_ rfl ?_
     ·exact aag
     ·rw[I.Y,zC.Y];exact⟨rfl,⟨_,_,xC⟩,gv,xD⟩
    ·have zC:Hid (R=.inr 7):=by unfold Hid;rw[<-K];unfold fA;rfl
     clear K;go_wp2_with fail;have M:=aQ (vs:=[oZ,oZ,.int .i64 7,oZ]) E rfl;have xC:=l.bO rh (aS _) E ag ag 0 [oZ,oZ,.int .i64 7,oZ];have gv:Below base w (aw wr w 0 [oZ,oZ,.int .i64 7,oZ]):=ax z _ _ _ ((y.mono z).trans (f.mono aa));have xD:=ue.Y _ ((lG.ext (y.trans (f.mono (cj _)))).new (q:=w.heap.size) (aS _) 0 [oZ,oZ,.int .i64 7,oZ]);change bodyPost _ _ _ _ _ (aw wr w 0 [oZ,oZ,.int .i64 7,oZ]);clear Z X Y F gO;generalize aw wr w 0 [oZ,oZ,.int .i64 7,oZ]=wz at *;have fH:=fun i=>af.cell M i;refine bodyPost_ret (v:=.agg #[oZ,oZ,.int .i64 7,oZ]) ?_ rfl ?_
     ·exact aag
     ·rw[I.Y,zC.Y];exact⟨rfl,⟨_,_,xC⟩,gv,xD⟩
end
end Go.Proofs.YtjcjjiieblineaaGreat
