/- Walks and plain facts. No condition. -/
import Derived.Test.YtpfbfhfcbdbglaaGreatPa
namespace Go.Proofs.YtpfbfhfcbdbglaaGreat
open Go.Proofs.Tryz Mo
set_option maxHeartbeats 8000000
set_option maxRecDepth 100000
set_option linter.all false
variable {n N w t m tags:Int}{c:dG}{l:List Int}{p:Pl}{r r':Rn}{α:Type}{q:Rq}{s:Rf}
namespace Mo
def uP(w:Int):Prop:=0<=w/\w<18446744073709551616
def fV(l:List Int):Prop:=∀w∈l,uP w
theorem ey(b:0<=w)(e:w<=18446744073709551615):uP w:=⟨b,aa⟩
theorem fV.nil:fV []:=λw h=>by cases h
theorem fV.cons(h:uP w)(k:fV l):fV (w::l):=λx b=>by
 rcases List.mem_cons.1 b with rfl|a
 .exact h
 .exact k x a
theorem fV.app{m:List Int}(h:fV l)(k:fV m):fV (l++m):=λx b=>by
 rcases List.mem_append.1 b with a|a
 .exact h x a
 .exact k x a
theorem fV.one(h:uP w):fV [w]:=fV.cons h fV.nil
theorem fV.at_(h:fV l)(a:Int):uP (aG l a):=by
 unfold aG;split
 .exact ey af af
 .rcases ou (l:=l) (i:=a.toNat) (d:=(0:Int))with b|b
  .exact h _ b
  .rw[b];exact ey af af
theorem fV.bp(h:fV l)(a:Int)(e:uP w):fV (setAt l a w):=by
 unfold setAt;split
 .exact h
 .intro x c;rcases mem_set c with b|rfl
  .exact h x b
  .exact e
theorem fV.zeros(n:Nat):fV (List.replicate n 0):=λx a=>by rw[(List.mem_replicate.1 a).2];exact ey af af
theorem fV.flat(f:α->List Int)(l:List α)(h:∀x∈l,fV (f x)):fV (l.flatMap f):=λw a=>by
 obtain⟨x,b,a⟩:=List.mem_flatMap.1 a
 exact h x b w a
theorem fV.map(f:α->Int)(l:List α)(h:∀x∈l,uP (f x)):fV (l.map f):=λw a=>by
 obtain⟨x,b,rfl⟩:=List.mem_map.1 a
 exact h x b
theorem xW(r:Rs):uP (fj r):=by
 unfold fj;split
 .rename_i h;have:=eF.1 h;exact ey aa aa
 .exact ey af af
theorem tL(r:Rf):uP (cm r):=by
 unfold cm kO;split
 .rename_i h;have:=of_decide_eq_true h;exact ey aa aa
 .exact ey af af
theorem Om{k:Cs}(h:kV k=true):uP (lY k):=by have:=jH.1 h;unfold lY;exact ey aa aa
theorem On{a:List Cs}(h:∀k∈a,kV k=true)(n:Nat):fV (a.map lY++List.replicate n 0):=(fV.map _ _ λk b=>Om (h k b)).app (fV.zeros _)
theorem pB(b:Bool):0<=flag b/\flag b<=1:=by unfold flag;split<;>decide
theorem Oo(b:bt q=true){ph:Int}(d:0<=ph)(e:ph<4294967296):fV (kg q ph)/\(kg q ph).length=5:=by
 have a:=gY.1 b;have c:fits ph 4294967296=true:=by unfold fits;simp;omega
 unfold kg;rw[ay (by rw[b,c];rfl)];refine⟨fV.cons ?_ ((On a.2.2.2.2 _).app (fV.one (ey d aa))),by simp;omega⟩;unfold Vy;exact ey (by split<;>omega) (by split<;>omega)
theorem xg{h:Hl}(F:kJ c h):fV (gI c h):=by
 have l:=aO F.ee;have e:=F.tick;unfold gI;rw[ay (gb.2 F)];refine fV.cons (ey e.1 aa) ((fV.app (fV.flat _ _ λx b=>?_) (fV.flat _ _ λx b=>?_)).app (fV.map _ _ λr _=>xW r))
 .have a:=cK.1 (F.ch x b);have f1:=pB x.used;have f2:=pB x.closed;unfold iZ r5;refine fV.cons (ey aa aa) ?_;unfold kH;refine fV.app (λw f=>?_) (fV.zeros _);have:=a.2.2.1.2 w (List.mem_of_mem_take f);exact ey this.1 aa
 .have a:=F.wt x b;have g:=mW a;have i:=xG a;have f1:=pB x.on;have j:0<=x.ak/\x.ak<=4294967295:=by
   have:=kW.1 a;split at this<;>omega
  unfold iJ;exact fV.cons (ey aa aa) (On (λk d=>Di a d) _)
theorem KA{a:Int}(h:fV l):fV (ja c l t a q):=by
 unfold ja;split
 .exact h
 .rename_i b;have g:0<=a/\a<=1048575:=aa;have d:bt q=true:=by
   cases e:bt q with
   |true=>rfl
   |false=>exact absurd (.inr (.inr (.inr (.inr e)))) b
  cases f:qo c l with
  |none=>exact h
  |some x=>exact xg (mD (uI f) g d)
theorem Jk(a:List Op)(h:fV l):fV (pZ c l a):=by
 unfold pZ;induction a generalizing l with
 |nil=>exact h
 |cons o a b=>exact b (KA h)
theorem ng(h:uP w):iR (cV w)=true:=by unfold uP at h;unfold cV;rw[eF];dsimp only;omega
def vP(N:Int)(s:Rf):Prop:=0<=s.ix/\s.ix<=65534/\0<=s.tag/\s.tag<=4294967295/\(s.ix=0\/s.ix<N)
theorem Tg(w:Int):0<=(jE w).1.ix/\(jE w).1.ix<=65534/\0<=(jE w).1.tag/\(jE w).1.tag<=4294967295:=by
 unfold jE;split
 .decide
 .rename_i h;have a:cm ⟨w%65536-1,w/65536%4294967296⟩=w/\w≠0:=by
   refine⟨?_,λe=>h (.inr e)⟩;by_cases e:cm ⟨w%65536-1,w/65536%4294967296⟩=w
   .exact e
   .exact absurd (.inl e) h
  have b:kO ⟨w%65536-1,w/65536%4294967296⟩=true:=by
   cases e:kO ⟨w%65536-1,w/65536%4294967296⟩with
   |true=>rfl
   |false=>have:=a.1;unfold cm at this;rw[e]at this;exact absurd this.symm a.2
  unfold kO at b;have:=of_decide_eq_true b;dsimp only at this ⊢;omega
theorem Th(w:Int)(h:(jE w).1.ix=0\/(jE w).1.ix<N):vP N (jE w).1:=have g:=Tg w;⟨g.1,g.2.1,g.2.2.1,g.2.2.2,h⟩
theorem Oq(s:Rf):(jE (cm s)).1.ix=0\/(jE (cm s)).1.ix=s.ix:=by
 unfold jE;split
 .exact .inl rfl
 .right;rename_i h;obtain⟨b,a⟩:=s;cases g:kO ⟨b,a⟩with
  |true =>
   have c:cm ⟨b,a⟩=a*65536+b+1:=by unfold cm;rw[ay g]
   unfold kO at g;have:=of_decide_eq_true g;rw[c];dsimp only at this ⊢;omega
  |false =>
   have c:cm ⟨b,a⟩=0:=by unfold cm;rw[au (by rw[g];decide)]
   exact absurd (.inr c) h
structure PB (N n:Int) (p:Pl):Prop where
 own:vP N p.own
 Ti:p.own.tag=0->p.own=wP
 free:∀s∈p.free,vP N s
 old:∀o∈p.old,vP N o.ref/\0<=o.iI/\o.iI<=n
 sp:0<=p.spent
 len:(p.free.length:Int)+p.old.length+p.spent<=n
theorem PB.mono(h:PB N n p)(e:n<=m):PB N m p:=⟨h.own,h.Ti,h.free,λo a=>by have:=h.old o a;exact⟨this.1,this.2.1,aa⟩,h.sp,by have:=h.len;omega⟩
theorem uQ:vP N wP:=⟨by decide,by decide,by decide,by decide,.inl rfl⟩
theorem Dy(h:(gW s tags).2=true)(d:vP N s):vP N (gW s tags).1/\(gW s tags).1.tag≠0:=by
 unfold gW at *;split at h
 .cases h
 .split at h
  .rename_i b a;rw[au b,ay a];unfold kO at a;have:=of_decide_eq_true a;unfold vP at *;dsimp only at this ⊢;omega
  .cases h
theorem Jl{N:Int}(a:Int):∀(l:List Rf),(∀s∈l,vP N s)->vP N (jb a l).1/\((jb a l).1.tag=0->(jb a l).1=wP)/\(∀s∈(jb a l).2.1,vP N s)/\(jb a l).2.1.length+(jb a l).2.2<=l.length
 |[],_=>⟨uQ,λ_=>rfl,λs h=>(by cases h),aR _⟩
 |s::l,h=>by
  unfold jb
  by_cases e:(gW s a).2=true
  .rw[ay e];exact⟨(Dy e (h s (by simp))).1,λd=>absurd d (Dy e (h s (by simp))).2,λx c=>h x (by simp[c]),aA⟩
  .rw[au e];have b:=Jl a l (λx c=>h x (by simp[c]));exact⟨b.1,b.2.1,b.2.2.1,by have:=b.2.2.2;simp;omega⟩
theorem Tj(h:PB N n p):PB N n (vH p tags).1:=by
 unfold vH;split
 .have a:=Jl tags p.free h.free;exact⟨a.1,a.2.1,a.2.2.1,h.old,by have:=h.sp;dsimp only;omega,by have:=h.len;have:=a.2.2.2;dsimp only;omega⟩
 .exact h
theorem Ot(h:PB N n p):PB N n (gX p):=⟨uQ,λ_=>rfl,h.free,h.old,h.sp,h.len⟩
theorem Tl(h:PB N n p){r:Rf}{g:Int}(d:vP N r)(b:0<=g)(e:g<=n):PB N (n+1) (tB p r g):=by
 refine⟨h.own,h.Ti,h.free,λo c=>?_,h.sp,?_⟩
 .rcases List.mem_append.1 c with a|a
  .have:=h.old o a;exact⟨this.1,this.2.1,aa⟩
  .rw[List.mem_singleton]at a;subst a;exact⟨d,b,by dsimp only;omega⟩
 .have:=h.len;unfold tB;dsimp only;rw[fM];simp;omega
theorem KC(l:List Od)(f:Od->Bool):((l.filter f).map (·.ref)).length+(l.filter λo=> !f o).length=l.length:=by
 rw[fP];induction l with
 |nil=>rfl
 |cons o l a=>cases e:f o<;>simp[e]<;>omega
theorem rA(h:PB N n p)(f:Od->Bool):PB N n (vI p f):=by
 refine⟨h.own,h.Ti,λs c=>?_,λo b=>h.old o ((List.mem_filter.1 b).1),h.sp,?_⟩
 .rcases List.mem_append.1 c with a|a
  .exact h.free s a
  .obtain⟨o,b,rfl⟩:=List.mem_map.1 a;exact(h.old o ((List.mem_filter.1 b).1)).1
 .have:=h.len;have:=KC p.old f;unfold vI;dsimp only;rw[fM];omega
theorem KD(p:Pl):0<=zU p/\zU p<=255:=by unfold zU;split;decide;split<;>decide
end Mo
namespace Mo
theorem jk(L:List Int)(a w b:Int):aG (setAt L a w) b=aG L b\/(a=b/\aG (setAt L a w) b=w):=by
 unfold setAt;by_cases d:a<0
 .rw[ay d];exact .inl rfl
 .rw[au d];unfold aG;by_cases c:b<0
  .rw[ay c,ay c];exact .inl rfl
  .rw[au c,au c,ew,ew];by_cases e:a.toNat=b.toNat
   .by_cases f:a.toNat<L.length
    .exact .inr ⟨aa,by rw[<-e,List.getElem?_set_self f];rfl⟩
    .rw[List.set_eq_of_length_le aa];exact .inl rfl
   .rw[List.getElem?_set_ne e];exact .inl rfl
def Gd(c:dG)(n:Int)(L:List Int):Prop:=aG L 1<=n/\((jE (aG L 0)).1.ix=0\/(jE (aG L 0)).1.ix<bX c)
theorem BR{L:List Int}{a:Int}(h:Gd c n L)(f:1<a):Gd c n (setAt L a w):=by
 unfold Gd;rcases jk L a w 1 with e|e
 .rcases jk L a w 0 with b|b
  .rw[e,b];exact h
  .omega
 .omega
theorem Gd.root{L:List Int}(h:Gd c n L)(b:vP (bX c) s):Gd c n (setAt L 0 (cm s)):=by
 unfold Gd vP at *;rcases jk L 0 (cm s) 1 with e|e
 .rw[e];refine⟨h.1,?_⟩;rcases jk L 0 (cm s) 0 with e|e
  .rw[e];exact h.2
  .rw[e.2];have:=Oq s;omega
 .omega
structure Tm (c:dG) (n:Int) (k:Tk):Prop where
 seq:0<=k.seq/\k.seq<=c.bw
 round:0<=k.round/\k.round<=n
 i:0<=k.i/\k.i<=n
 j:0<=k.j/\k.j<=n
 tr:0<=k.dK/\k.dK<=n
 ep:0<=k.js/\k.js<=n
 base:vP (bX c) k.base
 buf:fV k.buf
 To:(k.buf.length:Int)<=bA c
 nxt:fV k.next
 aax:(k.next.length:Int)<=bA c
 word:uP k.word
 args:fV k.args
 Ou:k.args.length<=5
 found:(k.found.length:Int)<=n
 seen:fV k.seen
 tM:(k.seen.length:Int)<=n
 res:iR k.res=true
 aJ:PB (bX c) n k.aJ
def nh(u z n e i j g h f x:Int):Prop:=(0<=e/\e<=38)/\(e=7->i<z/\g=i)/\((8<=e/\e<=12)\/(25<=e/\e<=27)->i<u)/\(8<=e/\e<=15->g=z)/\(13<=e/\e<=15->h=z)/\(13<=e/\e<=14->i<z)/\(e=25\/e=26->x<=n)/\(e=9->f=j/\j<5)/\(e=17->f=5/\j<5)
structure wS (c:dG) (n:Int) (k:Tk):Prop where
 a:nh c.threads (bA c) n k.pc k.i k.j k.buf.length k.next.length k.args.length k.word
 aQ:k.pc≠0->bt k.aQ=true
structure RB (c:dG) (n:Int) (r:Rn):Prop where
 k:Tm c n r.k
 f:wS c n r.k
 L:fV r.L
 g:Gd c n r.L
structure NB (c:dG) (n:Int) (r:Rn):Prop where
 k:Tm c n r.k
 aQ:bt r.k.aQ=true
 L:fV r.L
 g:Gd c n r.L
theorem Tm.mono{k:Tk}(h:Tm c n k)(e:n<=m):Tm c m k :={h with round:=⟨h.round.1,by have:=h.round.2;omega⟩,i:=⟨h.i.1,by have:=h.i.2;omega⟩,j:=⟨h.j.1,by have:=h.j.2;omega⟩,tr:=⟨h.tr.1,by have:=h.tr.2;omega⟩,ep:=⟨h.ep.1,by have:=h.ep.2;omega⟩,found:=by have:=h.found;omega,tM:=by have:=h.tM;omega,aJ:=h.aJ.mono e}
theorem wS.mono{k:Tk}(h:wS c n k)(e:n<=m):wS c m k:=⟨by have:=h.a;unfold nh at *;omega,h.aQ⟩
theorem RB.nb(h:RB c n r)(b:r.k.pc≠0):NB c n r:=⟨h.k,h.f.aQ b,h.L,h.g⟩
theorem NB.mono(h:NB c n r)(e:n<=m):NB c m r:=⟨h.k.mono e,h.aQ,h.L,Int.le_trans h.g.1 e,h.g.2⟩
def fk(p:Int):Prop:=(0<=p/\p<=6)\/p=16\/(18<=p/\p<=24)\/(28<=p/\p<=38)
theorem wS.fT{k:Tk}(h:fk k.pc)(b:k.pc≠0->bt k.aQ=true):wS c n k:=by unfold fk at h;exact⟨by unfold nh;omega,b⟩
theorem NB.tN(h:NB c n r){p:Int}(b:fk p):RB c n (r.pc p):=⟨{h.k with},wS.fT b λ_=>h.aQ,h.L,h.g⟩
theorem Jm(h:NB c n r):RB c n (Rn.again c r):=by
 unfold Rn.again;split
 .exact h.tN (by unfold fk;omega)
 .split
  .exact h.tN (by unfold fk;omega)
  .exact h.tN (by unfold fk;omega)
theorem Gb(h:NB c n r):RB c (n+1) (Rn.fail c r):=by unfold Rn.fail;have H:=h.mono (m:=n+1) aa;have a:=h.k.round;have b:=h.k.i;exact Jm ⟨{H.k with round:=⟨by dsimp only;omega,by dsimp only;omega⟩,found:=by simp;omega},H.aQ,H.L,H.g⟩
theorem Ov(h:NB c n r)(a:c.bw<=1048575):RB c n r.refuse:=by unfold Rn.refuse;have:=KD r.k.aJ;have:=h.k.seq;exact⟨{h.k with res:=by rw[eF];dsimp only;omega},wS.fT (by unfold fk;dsimp only;omega) λ_=>h.aQ,h.L,h.g⟩
theorem Ox(h:NB c n r)(b:c.bw<=1048575):RB c n (Rn.take c r):=by
 unfold Rn.take;dsimp only;have a:=Tj (tags:=c.tags) h.k.aJ;split
 .exact Jm ⟨{h.k with aJ:=a},h.aQ,h.L,h.g⟩
 .split
  .exact⟨{h.k with aJ:=a},wS.fT (by unfold fk;dsimp only;omega) λ_=>h.aQ,h.L,h.g⟩
  .exact Ov ⟨{h.k with aJ:=a},h.aQ,h.L,h.g⟩ b
theorem uR(h:NB c n r)(a:c.bw<=1048575):RB c n (Rn.eY c r):=by
 unfold Rn.eY;split
 .exact Ox h a
 .exact h.tN (by unfold fk;omega)
theorem Oy{k d:Int}{g:Rs}{b:Bool}(e:0<=n)(f:0<=bA c)(j:0<=d/\d<=c.bw)(h:PB (bX c) n p)(i:iR g=true):Tm c n (jc k d q p g b):=by unfold jc;exact⟨j,by dsimp only;omega,by dsimp only;omega,by dsimp only;omega,by dsimp only;omega,by dsimp only;omega,uQ,fV.nil,by simpa using f,fV.nil,by simpa using f,ey (ek 0) (by decide:(0:Int)<=18446744073709551615),fV.nil,aA,by simpa using e,fV.nil,by simpa using e,i,h⟩
theorem xX(h:NB c n r)(b:0<=n)(d:0<=bA c):RB c n r.finish:=by unfold Rn.finish;exact⟨Oy b d h.k.seq h.k.aJ h.k.res,wS.fT (by unfold fk jc;dsimp only;omega) λe=>absurd rfl e,h.L,h.g⟩
theorem Jn(h:NB c n r)(a:0<=n)(b:0<=bA c):RB c n (Rn.owned c r):=by
 unfold Rn.owned;split
 .exact xX h a b
 .split
  .exact h.tN (by unfold fk;omega)
  .exact h.tN (by unfold fk;omega)
theorem uS(h:NB c n r)(e:(r.k.buf.length:Int)=bA c)(f:r.k.i<c.threads)(b:r.k.i+1<=n)(a:0<=n):RB c n (Rn.gg c r):=by
 have d:=h.k.i;unfold Rn.gg;split
 .exact VP
 .exact⟨{h.k with i:=⟨by dsimp only;omega,by dsimp only;omega⟩},⟨by unfold nh;dsimp only;omega,λ_=>h.aQ⟩,h.L,h.g⟩
theorem xY(b:α->α->Bool)(x:α)(l:List α):(gJ b x l).length=l.length+1:=by
 induction l with
 |nil=>rfl
 |cons y l a=>unfold gJ;split<;>simp[a]
theorem jl(b:α->α->Bool)(l:List α):(eA b l).length=l.length:=by
 unfold eA;rw[List.length_reverse];have:∀(l a:List α),(l.foldl (λa x=>gJ b x a) a).length=a.length+l.length:=by
  intro l;induction l with
  |nil=>intro a;rfl
  |cons x l c=>intro a;rw[List.foldl_cons,c,xY,List.length_cons];omega
 rw[this];simp
theorem xZ(h:NB c n r)(a:(r.k.buf.length:Int)=bA c)(g:r.k.i<c.threads)(e:r.k.i+1<=n)(d:0<=n)(j:1<=bA c)(b:(r.k.found.length:Int)+1<=n):RB c n (Rn.ej c t r):=by
 have f:=h.k.i;unfold Rn.ej;dsimp only;split
 .exact VP
 .have i:=xJ (c:=c) (km r.k.found++(if r.k.p5=true then[]else[⟨t,r.k.seq,0,r.k.aQ⟩])) a;refine⟨{h.k with i:=⟨by dsimp only;omega,by dsimp only;omega⟩,tr:=⟨by dsimp only;omega,by dsimp only;omega⟩,nxt:=Jk _ h.k.buf,aax:=by dsimp only;omega,found:=?_},⟨by unfold nh;dsimp only;omega,λ_=>h.aQ⟩,h.L,h.g⟩;dsimp only;rw[fM];unfold km;rw[jl];split<;>simp<;>omega
theorem ya(c:dG)(h:fV l)(i:Int):iR (iT c l i)=true:=by
 unfold iT l7;split
 .exact ng (ey af af)
 .exact ng (h.at_ _)
theorem tO(c:dG)(h:fV l)(i:Int):uP (l7 c l i):=by
 unfold l7;split
 .exact ey af af
 .exact h.at_ _
end Mo
namespace Mo
structure CB (c:dG) (t:Int):Prop where
 ee:aV c=true
 t0:0<=t
 t1:t<c.threads
theorem CB.bw(C:CB c t):c.bw<=1048575:=(aO C.ee).2.2.2.2.2.1.2
theorem CB.th(C:CB c t):1<=c.threads/\c.threads<=64:=(aO C.ee).1
theorem CB.size(C:CB c t):2<=bA c:=size_pos C.ee
theorem NB.store(h:NB c n r){a:Int}(b:1<a)(d:uP w):NB c n (r.store a w):=⟨h.k,h.aQ,h.L.bp a d,BR h.g b⟩
theorem Tp(C:CB c t){i:Int}(a:0<=i):12<=bV c i:=by have b:=C.th;have d:=C.size;have:0<=i*(1+bA c):=lI a aa;unfold bV;omega
theorem AI{g:Int}(b:0<=g)(d:g<=100000000):uP (jt g):=by unfold jt;exact ey aa aa
theorem Tq(C:CB c t)(h:RB c n r)(f:0<=n)(b:n<=100000000)(d:1<=r.k.pc)(e:r.k.pc<=5):RB c (n+1) (Rn.enter c t r):=by
 have N:=h.nb aa;have M:=N.mono (m:=n+1) aa;have g:=C.th;have i:=C.t0;unfold Rn.enter;split
 .exact VQ
 .split
  .have a:=N.k.ep;exact Ox (M.store (by unfold qp;omega) (AI a.1 aa)) C.bw
  .split
   .exact VR
   .split
    .exact(M.store (by unfold jZ;omega) (tL _)).tN (by unfold fk;omega)
    .split
     .split
      .exact Gb N
      .exact M.tN (by unfold fk;omega)
     .omega
theorem Oz(C:CB c t)(h:RB c n r)(k:0<=n)(g:6<=r.k.pc)(i:r.k.pc<=7):RB c (n+1) (Rn.fY c t r):=by
 have N:=h.nb (by omega);have M:=N.mono (m:=n+1) (by omega);have l:=C.size;have o:=C.th;have e:=h.f.a;unfold nh at e;unfold Rn.fY;split
 .split
  .exact Gb N
  .exact⟨{M.k with i:=⟨ek 0,by dsimp only;omega⟩,buf:=fV.nil,To:=by simp;omega},⟨by unfold nh;dsimp only;simp;omega,λ_=>M.aQ⟩,M.L,M.g⟩
 .have p:=h.k.i;have f:((r.k.buf++[aG r.L (bV c r.k.base.ix+1+r.k.i)]).length:Int)=r.k.buf.length+1:=by rw[fM];simp
  have a:fV (r.k.buf++[aG r.L (bV c r.k.base.ix+1+r.k.i)]):=N.k.buf.app (fV.one (h.L.at_ _));have j:=N.k.found;dsimp only;generalize r.k.buf++[aG r.L (bV c r.k.base.ix+1+r.k.i)]=b at *;split
  .exact⟨{M.k with i:=⟨by dsimp only;omega,by dsimp only;omega⟩,buf:=a,To:=by dsimp only;omega},⟨by unfold nh;dsimp only;omega,λ_=>M.aQ⟩,M.L,M.g⟩
  .have d:Tm c (n+1) {r.k with buf:=b,i:=0,found:=[],pc:=8}:={M.k with i:=⟨ek 0,by dsimp only;omega⟩,buf:=a,To:=by dsimp only;omega,found:=by simp;omega}
   split
   .exact⟨{d with res:=ya c a t},wS.fT (by unfold fk;dsimp only;omega) λ_=>M.aQ,M.L,M.g⟩
   .exact⟨d,⟨by unfold nh;dsimp only;omega,λ_=>M.aQ⟩,M.L,M.g⟩
theorem OA(C:CB c t)(h:RB c n r)(o:0<=n)(j:8<=r.k.pc)(k:r.k.pc<=10):RB c (n+1) (Rn.fZ c r):=by
 have N:=h.nb aa;have M:=N.mono (m:=n+1) aa;have p:=C.size;have q:=C.th;have f:=h.f.a;unfold nh at f;have s:=h.k.i;have a:(r.k.buf.length:Int)=bA c:=aa;have e:r.k.i<c.threads:=aa;have i:=h.k.found;unfold Rn.fZ;split
 .dsimp only;split
  .exact uS (r:={r with k:={r.k with word:=aG r.L (pg c r.k.i)}}) ⟨{M.k with word:=h.L.at_ _},M.aQ,M.L,M.g⟩ a e (by dsimp only;omega) aa
  .exact⟨{M.k with word:=h.L.at_ _,j:=⟨ek 0,by dsimp only;omega⟩,args:=fV.nil,Ou:=by simp},⟨by unfold nh;dsimp only;simp;omega,λ_=>M.aQ⟩,M.L,M.g⟩
 .split
  .have l:=h.k.j;have g:((r.k.args++[aG r.L (kn c r.k.i+r.k.j)]).length:Int)=r.k.args.length+1:=by rw[fM];simp
   have d:fV (r.k.args++[aG r.L (kn c r.k.i+r.k.j)]):=N.k.args.app (fV.one (h.L.at_ _));dsimp only;generalize r.k.args++[aG r.L (kn c r.k.i+r.k.j)]=b at *;refine⟨{M.k with args:=d,Ou:=by dsimp only;omega,j:=⟨by dsimp only;omega,by dsimp only;omega⟩},⟨?_,λ_=>M.aQ⟩,M.L,M.g⟩;unfold nh;dsimp only;split<;>omega
  .split
   .dsimp only;split
    .exact uS (r:={r with k:={r.k with found:=r.k.found++[⟨r.k.i,r.k.word,(jr r.k.args).2.1,(jr r.k.args).1⟩]}}) ⟨{M.k with found:=by dsimp only;rw[fM];simp;omega},M.aQ,M.L,M.g⟩ a e (by dsimp only;omega) aa
    .exact uS M a e aa aa
   .omega
theorem KF(C:CB c t)(h:RB c n r)(o:0<=n)(j:11<=r.k.pc)(k:r.k.pc<=12):RB c (n+1) (Rn.gi c t r):=by
 have N:=h.nb aa;have M:=N.mono (m:=n+1) aa;have l:=C.size;have p:=C.th;have f:=h.f.a;unfold nh at f;have q:=h.k.i;have d:(r.k.buf.length:Int)=bA c:=aa;have e:r.k.i<c.threads:=aa;have i:=h.k.found;have g:=h.k.tr;unfold Rn.gi;dsimp only;split
 .split
  .exact xZ (r:={r with k:={r.k with word:=aG r.L (ea c r.k.i)}}) ⟨{M.k with word:=h.L.at_ _},M.aQ,M.L,M.g⟩ d e (by dsimp only;omega) aa aa (by dsimp only;omega)
  .exact⟨{M.k with word:=h.L.at_ _},⟨by unfold nh Rn.pc;dsimp only;omega,λ_=>M.aQ⟩,M.L,M.g⟩
 .have a:∀(b:Rn),b=(if aG r.L (ea c r.k.i)=r.k.word then r.store (ea c r.k.i) (l7 c r.k.buf r.k.i)else r)->NB c (n+1) {b with k:={r.k with dK:=r.k.dK+1}}:=by
   rintro b rfl;split
   .exact⟨{M.k with tr:=⟨by dsimp only;omega,by dsimp only;omega⟩},M.aQ,M.L.bp _ (tO c N.k.buf _),BR M.g (by unfold ea;omega)⟩
   .exact⟨{M.k with tr:=⟨by dsimp only;omega,by dsimp only;omega⟩},M.aQ,M.L,M.g⟩
  have a:=a _ rfl
  split
  .exact xZ a d e (by dsimp only;omega) aa aa (by dsimp only;omega)
  .exact⟨{a.k with},⟨by unfold nh Rn.pc;dsimp only;omega,λ_=>M.aQ⟩,a.L,a.g⟩
theorem OC(C:CB c t)(h:RB c n r)(e:13<=r.k.pc)(f:r.k.pc<=15):RB c (n+1) (Rn.writes c t r):=by
 have N:=h.nb aa;have M:=N.mono (m:=n+1) aa;have g:=C.size;have j:=C.th;have d:=h.f.a;unfold nh at d;have k:=h.k.i;have hown:=h.k.aJ.own;have b:=Tp C (i:=r.k.aJ.own.ix) hown.1;unfold vP at hown;unfold Rn.writes;dsimp only;split
 .have a:NB c (n+1) (r.store (bV c r.k.aJ.own.ix) r.k.aJ.own.tag):=M.store aa (ey aa aa);exact⟨{a.k with},⟨by unfold nh Rn.pc Rn.store;dsimp only;omega,λ_=>M.aQ⟩,a.L,a.g⟩
 .split
  .have a:NB c (n+1) {r.store (bV c r.k.aJ.own.ix+1+r.k.i) (aG r.k.next r.k.i)with k:={r.k with i:=r.k.i+1}} :=
    ⟨{M.k with i:=⟨by dsimp only;omega,by dsimp only;omega⟩},M.aQ,M.L.bp _ (N.k.nxt.at_ _),BR M.g aa⟩
   split
   .exact⟨{a.k with},⟨by unfold nh Rn.pc Rn.store;dsimp only;omega,λ_=>M.aQ⟩,a.L,a.g⟩
   .exact⟨a.k,⟨by unfold nh Rn.store;dsimp only;omega,λ_=>M.aQ⟩,a.L,a.g⟩
  .split
   .split
    .exact Gb N
    .exact⟨{M.k with res:=ya c N.k.nxt t,aJ:=Ot M.k.aJ},wS.fT (by unfold fk;dsimp only;omega) λ_=>M.aQ,M.L.bp 0 (tL r.k.aJ.own),M.g.root h.k.aJ.own⟩
   .omega
theorem Gc(C:CB c t)(h:RB c n r)(o:0<=n)(i:16<=r.k.pc)(j:r.k.pc<=19):RB c (n+1) (Rn.cZ c t r):=by
 have N:=h.nb aa;have M:=N.mono (m:=n+1) aa;have l:=C.size;have p:=C.th;have q:=C.t0;have g:=C.bw;have e:=h.f.a;unfold nh at e;have s:=h.k.i;have k:=h.k.j;unfold Rn.cZ;dsimp only;split
 .have f:=h.L.at_ 2;unfold uP at f;have b:=Oo N.aQ (ph:=aG r.L 2%4294967296) aa aa;have d:=M.store (a:=2) (w:=(aG r.L 2+1)%18446744073709551616) aa (ey aa aa);refine⟨{M.k with args:=b.1,Ou:=by dsimp only;omega,j:=⟨ek 0,by dsimp only;omega⟩},⟨by unfold nh Rn.store;dsimp only;omega,λ_=>M.aQ⟩,d.L,d.g⟩
 .split
  .refine⟨{M.k with j:=⟨by dsimp only;omega,by dsimp only;omega⟩},⟨?_,λ_=>M.aQ⟩,M.L.bp _ (N.k.args.at_ _),BR M.g (by unfold kn;omega)⟩;unfold nh Rn.store;dsimp only;split<;>omega
  .split
   .have d:=h.k.seq;exact⟨{M.k with round:=⟨(by decide:(0:Int)<=1),by dsimp only;omega⟩},wS.fT (by unfold fk;dsimp only;omega) λ_=>M.aQ,M.L.bp _ (ey aa aa),BR M.g (by unfold pg;omega)⟩
   .split
    .exact⟨{M.k with res:=ng (h.L.at_ _)},wS.fT (by unfold fk;dsimp only;omega) λ_=>M.aQ,M.L,M.g⟩
    .omega
theorem X0(C:CB c t)(h:RB c n r)(j:0<=n)(g:20<=r.k.pc)(i:r.k.pc<=23):RB c (n+1) (Rn.ends c t r):=by
 have N:=h.nb aa;have M:=N.mono (m:=n+1) aa;have k:=C.size;have l:=C.th;have o:=C.t0;have f:=h.k.tr;unfold Rn.ends;dsimp only;split
 .refine⟨{M.k with tr:=⟨ek 0,by dsimp only;omega⟩},wS.fT ?_ λ_=>M.aQ,M.L.bp _ (ey (ek 0) (by decide:(0:Int)<=18446744073709551615)),BR M.g (by unfold jZ;omega)⟩;unfold fk;dsimp only;split<;>omega
 .split
  .have e:=h.g.1;have d:=h.L.at_ 1;unfold uP at d;exact⟨{M.k with aJ:=Tl h.k.aJ h.k.base d.1 e},wS.fT (by unfold fk;dsimp only;omega) λ_=>M.aQ,M.L,M.g⟩
  .split
   .split
    .exact Jn (r:={r with k:={r.k with word:=aG r.L (ea c t)}}) ⟨{M.k with word:=h.L.at_ _},M.aQ,M.L,M.g⟩ aa aa
    .exact⟨{M.k with word:=h.L.at_ _},wS.fT (by unfold fk Rn.pc;dsimp only;omega) λ_=>M.aQ,M.L,M.g⟩
   .split
    .have a:∀(b:Rn),b=(if aG r.L (ea c t)=r.k.word then r.store (ea c t) (fj r.k.res)else r)->NB c (n+1) {b with k:={r.k with dK:=r.k.dK+1,pc:=22}}:=by
      rintro b rfl;split
      .exact⟨{M.k with tr:=⟨by dsimp only;omega,by dsimp only;omega⟩},M.aQ,M.L.bp _ (xW _),BR M.g (by unfold ea;omega)⟩
      .exact⟨{M.k with tr:=⟨by dsimp only;omega,by dsimp only;omega⟩},M.aQ,M.L,M.g⟩
     have a:=a _ rfl
     split
     .exact Jn a aa aa
     .exact⟨a.k,wS.fT (by unfold fk;dsimp only;omega) λ_=>M.aQ,a.L,a.g⟩
    .omega
theorem KG(C:CB c t)(h:RB c n r)(x:0<=n)(o:n<=100000000)(u:24<=r.k.pc)(v:r.k.pc<=27):RB c (n+1) (Rn.dX c t r):=by
 have N:=h.nb (by omega);have M:=N.mono (m:=n+1) (by omega);have y:=C.size;have z:=C.th;have A:=C.t0;have i:=h.f.a;unfold nh at i;have B:=h.k.i;unfold Rn.dX;dsimp only;split
 .have p:=h.g.1;have g:Tm c (n+1) {r.k with word:=aG r.L 1,aJ:=gL r.k.aJ (aG r.L 1),i:=0,all:=true,pc:=25}:={M.k with word:=h.L.at_ 1,aJ:=rA M.k.aJ _,i:=⟨ek 0,by dsimp only;omega⟩}
  split
  .exact uR (r:={r with k:={r.k with word:=aG r.L 1,aJ:=gL r.k.aJ (aG r.L 1),i:=0,all:=true,pc:=25}}) ⟨g,M.aQ,M.L,M.g⟩ C.bw
  .exact⟨g,⟨by unfold nh;dsimp only;omega,λ_=>M.aQ⟩,M.L,M.g⟩
 .split
  .split
   .exact⟨{M.k with i:=⟨by dsimp only;omega,by dsimp only;omega⟩},⟨by unfold nh;dsimp only;omega,λ_=>M.aQ⟩,M.L,M.g⟩
   .refine⟨{M.k with i:=⟨ek 0,by dsimp only;omega⟩,seen:=fV.nil,tM:=by simp;omega},⟨?_,λ_=>M.aQ⟩,M.L,M.g⟩;unfold nh;dsimp only;split<;>omega
  .split
   .have k:=h.k.word;unfold uP at k;have a:∀(b:Rn),b=(if aG r.L 1=r.k.word then{r.store 1 (r.k.word+1)with k:={r.k with aJ:=gL r.k.aJ (r.k.word+1)}}else r)->NB c (n+1) b/\b.k.i=r.k.i:=by
     rintro b rfl;split
     .refine⟨⟨{M.k with aJ:=rA M.k.aJ _},M.aQ,fV.bp (w:=r.k.word+1) M.L 1 (ey (by omega) (by omega)),?_⟩,rfl⟩;show Gd _ _ (setAt r.L 1 (r.k.word+1));constructor
      .rcases jk r.L 1 (r.k.word+1) 1 with e|e
       .rw[e];exact M.g.1
       .rw[e.2];omega
      .rcases jk r.L 1 (r.k.word+1) 0 with e|e
       .rw[e];exact M.g.2
       .omega
     .exact⟨M,rfl⟩
    generalize(if aG r.L 1=r.k.word then{r.store 1 (r.k.word+1)with k:={r.k with aJ:=gL r.k.aJ (r.k.word+1)}}else r)=b at *;obtain⟨a,q⟩:=a _ rfl;have f:NB c (n+1) (b.pc 27):=⟨{a.k with},a.aQ,a.L,a.g⟩
    split
    .exact uR f C.bw
    .exact⟨f.k,⟨by unfold nh Rn.pc;dsimp only;omega,λ_=>a.aQ⟩,a.L,a.g⟩
   .split
    .have l:((r.k.seen++[aG r.L (jZ c r.k.i)]).length:Int)=r.k.seen.length+1:=by rw[fM];simp
     have d:fV (r.k.seen++[aG r.L (jZ c r.k.i)]):=N.k.seen.app (fV.one (h.L.at_ _));have j:=h.k.tM;generalize r.k.seen++[aG r.L (jZ c r.k.i)]=s at *;split
     .exact uR (r:={r with k:={r.k with seen:=s,i:=r.k.i+1,aJ:=pd r.k.aJ s}}) ⟨{M.k with i:=⟨by dsimp only;omega,by dsimp only;omega⟩,seen:=d,tM:=by dsimp only;omega,aJ:=rA M.k.aJ _},M.aQ,M.L,M.g⟩ C.bw
     .exact⟨{M.k with i:=⟨by dsimp only;omega,by dsimp only;omega⟩,seen:=d,tM:=by dsimp only;omega},⟨by unfold nh;dsimp only;omega,λ_=>M.aQ⟩,M.L,M.g⟩
    .omega
theorem Ts(C:CB c t)(h:RB c n r)(e:0<=n)(d:r.k.pc=28):RB c (n+1) (Rn.leave c t r):=by
 have N:=h.nb aa;have M:=N.mono (m:=n+1) aa;have f:=C.size;have g:=C.th;have i:=C.t0;have b:=M.store (a:=qp c t) (w:=0) (by unfold qp;omega) (ey af af);unfold Rn.leave;dsimp only;split
 .exact xX b aa aa
 .refine⟨Oy aa aa M.k.seq M.k.aJ M.k.res,wS.fT ?_ λ_=>M.aQ,b.L,b.g⟩;unfold fk jc;dsimp only;omega
theorem wT{p:Prop}[Decidable p]{x y:Rn}(b:p->RB c n x)(d:¬p->RB c n y):RB c n (if p then x else y):=by
 by_cases h:p
 .rw[ay h];exact b h
 .rw[au h];exact d h
theorem Tt(C:CB c t)(h:RB c n r)(j:0<=n)(g:n<=100000000)(i:29<=r.k.pc):RB c (n+1) (Rn.waits c t r):=by
 have N:=h.nb aa;have M:=N.mono (m:=n+1) aa;have k:=C.size;have l:=C.th;have o:=C.t0;have d:=h.f.a;unfold nh at d;have f:=N.k.ep;unfold Rn.waits;dsimp only;refine wT (λe=>?_) (λe=>?_)
 .refine wT (λe=>?_) (λe=>?_)
  .exact xX (r:={r with k:={r.k with res:=cV (aG r.L (ea c t)),pc:=30}}) ⟨{M.k with res:=ng (h.L.at_ _)},M.aQ,M.L,M.g⟩ aa aa
  .exact M.tN (by unfold fk;omega)
 .refine wT (λe=>?_) (λe=>?_)
  .exact VQ
  .refine wT (λe=>?_) (λe=>?_)
   .exact(M.store (by unfold qp;omega) (AI f.1 aa)).tN (by unfold fk;omega)
   .refine wT (λe=>?_) (λe=>?_)
    .exact VR
    .refine wT (λe=>?_) (λe=>?_)
     .exact(M.store (by unfold jZ;omega) (tL _)).tN (by unfold fk;omega)
     .refine wT (λe=>?_) (λe=>?_)
      .refine⟨{M.k with word:=ey (ek 0) (by decide:(0:Int)<=18446744073709551615)},wS.fT ?_ λ_=>M.aQ,M.L,M.g⟩;unfold fk;dsimp only;split<;>omega
      .refine wT (λe=>?_) (λe=>?_)
       .exact M.tN (by unfold fk;split<;>omega)
       .refine wT (λe=>?_) (λe=>?_)
        .exact⟨{M.k with word:=h.L.at_ _},wS.fT (by unfold fk;dsimp only;omega) λ_=>M.aQ,M.L,M.g⟩
        .refine wT (λe=>?_) (λe=>?_)
         .exact(M.store (a:=jZ c t) (w:=0) (by unfold jZ;omega) (ey af af)).tN (by unfold fk;omega)
         .refine wT (λe=>?_) (λe=>?_)
          .have b:=M.store (a:=qp c t) (w:=0) (by unfold qp;omega) (ey af af);refine wT (λe=>?_) (λe=>?_)
           .exact⟨{b.k with res:=ng N.k.word,tr:=⟨ek 0,by dsimp only;omega⟩},wS.fT (by unfold fk;dsimp only;omega) λ_=>M.aQ,b.L,b.g⟩
           .exact b.tN (by unfold fk;omega)
          .omega
theorem X1(C:CB c t)(h:RB c n r)(a:0<=n)(b:n<=100000000):RB c (n+1) (fJ c t r):=by
 have d:=h.f.a;unfold nh at d;unfold fJ;split
 .exact⟨h.k.mono aa,h.f.mono aa,h.L,by have:=h.g.1;unfold Gd;exact⟨by omega,h.g.2⟩⟩
 .split
  .exact Tq C h a b aa aa
  .split
   .exact Oz C h a aa aa
   .split
    .exact OA C h a aa aa
    .split
     .exact KF C h a aa aa
     .split
      .exact OC C h aa aa
      .split
       .exact Gc C h a aa aa
       .split
        .exact X0 C h a aa aa
        .split
         .exact KG C h a b aa aa
         .split
          .exact Ts C h a aa
          .exact Tt C h a b aa
end Mo
end Go.Proofs.YtpfbfhfcbdbglaaGreat
