/- Walks and plain facts. No condition. -/
import Derived.Test.YtjcjjiieblineaaGreatPc
namespace Go.Proofs.YtjcjjiieblineaaGreat
open Go.Proofs.Tryz
set_option maxHeartbeats 8000000
set_option maxRecDepth 100000
set_option linter.all false
variable {t:Nat}{L:List Int}{tags N:Int}
namespace Mo
def KF(N tags:Int)(s:Rf):Prop:=0<=s.ix/\s.ix<N/\0<=s.tag/\s.tag<=tags
def xS(N tags:Int)(s:Rf):Prop:=0<=s.ix/\s.ix<N/\1<=s.tag/\s.tag<=tags
def mW(l:List Rf):Int:=(l.map (·.tag)).sum
def pend(k:Tk):Bool:=k.gF && (k.pc==20 || k.pc==21)
def ry(p:Pl):Int:=if p.own.tag=0 then 0 else 1
def mr(p:Pl):Int:=ry p+p.free.length+p.old.length+p.spent
def mX(tags:Int)(p:Pl):Int:=p.own.tag+mW p.free+mW (p.old.map (·.ref))+tags*p.spent-ry p
def pV(k:Tk):Int:=mr k.az+if pend k=true then 1 else 0
def rz(tags:Int)(k:Tk):Int:=mX tags k.az+if pend k=true then k.base.tag else 0
structure PI (N tags:Int) (p:Pl):Prop where
 own:p.own.tag=0\/xS N tags p.own
 free:∀s∈p.free,KF N tags s
 old:∀o∈p.old,xS N tags o.ref
 spent:0<=p.spent
structure KI (N tags:Int) (k:Tk):Prop where
 az:PI N tags k.az
 mid:3<=k.pc->k.pc<=19->k.az.own.tag≠0/\k.jr=false
 early:k.pc<=19->k.gF=false
 late:(29<=k.pc->k.gF=false)/\(k.pc=21->k.gF=true)
 scan:k.gF=true->k.jr=false
 base:4<=k.pc->k.pc<=15->xS N tags k.base
 YI:pend k=true->xS N tags k.base
 i0:0<=k.i
 j0:0<=k.j
 p0:0<=k.pc
section
variable{N tags:Int}
theorem xS.KF{s:Rf}(h:xS N tags s):KF N tags s:=by unfold xS at h;unfold Mo.KF;omega
theorem xS.good{s:Rf}(h:xS N tags s)(hN:N<=65535)(ht:tags<=4294967295):iI s=true:=by unfold xS at h;unfold iI;simp;omega
theorem oP{s:Rf}(h:iI s=true):gy (bL s)=(s,true):=by
 obtain⟨ix,tag⟩:=s;have hw:bL ⟨ix,tag⟩=tag*65536+ix+1:=by unfold bL;rw[au h]
 unfold iI at h;simp at h;have e1:(tag*65536+ix+1)%65536-1=ix:=ae;have e2:(tag*65536+ix+1)/65536%4294967296=tag:=ae;rw[hw];unfold gy;rw[e1,e2,hw,ai ae]
theorem mY(s:Rf)(l:List Rf):mW (s::l)=s.tag+mW l:=by simp[mW]
theorem tR(l m:List Rf):mW (l++m)=mW l+mW m:=by simp[mW]
theorem Gy(l:List Rf)(h:∀s∈l,s.tag<=tags):mW l<=tags*l.length:=by
 induction l with
 |nil=>simp[mW]
 |cons a l ih =>
  have h1:=ih (fun s hs=>h s (List.mem_cons_of_mem _ hs));have h2:=h a List.mem_cons_self;rw[mY,List.length_cons];have:tags*((l.length+1:Nat):Int)=tags*l.length+tags:=by rw[Int.natCast_add,Int.mul_add];simp
  omega
theorem IA{s:Rf}(h:KF N tags s)(hN:N<=65535)(ht:tags<=4294967295)(hlt:s.tag<tags):ej s tags=(⟨s.ix,s.tag+1⟩,true):=by unfold KF at h;unfold ej;rw[ai ae,au (by unfold iI;simp;omega)]
theorem LU{s:Rf}(ht:tags<=4294967295)(hlt:tags<=s.tag):ej s tags=(⟨0,0⟩,false):=by unfold ej;rw[au ae]
theorem El(hN:N<=65535)(ht:tags<=4294967295)(l:List Rf)(h:∀s∈l,KF N tags s) :
 ((dt tags l).1.tag=0\/xS N tags (dt tags l).1)/\(∀s∈(dt tags l).2.1,KF N tags s) /\
 ((l.length:Int)=(if(dt tags l).1.tag=0 then 0 else 1)+(dt tags l).2.1.length+(dt tags l).2.2) /\
 (dt tags l).1.tag+mW (dt tags l).2.1+tags*((dt tags l).2.2:Nat)-(if(dt tags l).1.tag=0 then 0 else 1)=mW l:=by
 induction l with
 |nil=>simp[dt,oK,mW]
 |cons s l ih =>
  obtain⟨i1,i2,i3,i4⟩:=ih (fun s hs=>h s (List.mem_cons_of_mem _ hs));have hs:=h s List.mem_cons_self;by_cases hlt:s.tag<tags
  ·have e:dt tags (s::l)=(⟨s.ix,s.tag+1⟩,l,0):=by
    show(if(ej s tags).2=true then _ else _)=_;rw[IA hs hN ht hlt];rfl
   rw[e]
   unfold KF at hs
   refine⟨.inr (by unfold xS;dsimp only;omega),fun x hx=>h x (List.mem_cons_of_mem _ hx),?_,?_⟩
   ·dsimp only;rw[ai ae];simp;omega
   ·dsimp only;rw[ai ae,mY];simp;omega
  ·have e:dt tags (s::l)=((dt tags l).1,(dt tags l).2.1,(dt tags l).2.2+1):=by
    show(if(ej s tags).2=true then _ else _)=_;rw[LU ht ae];rfl
   rw[e]
   have VV:s.tag=tags:=by unfold KF at hs;omega
   refine⟨i1,i2,?_,?_⟩
   ·dsimp only;simp at i3 ⊢;omega
   ·dsimp only;rw[mY,VV];have:tags*(((dt tags l).2.2+1:Nat):Int)=tags*((dt tags l).2.2:Nat)+tags:=by rw[Int.natCast_add,Int.mul_add];simp
    omega
theorem Em(hN:N<=65535)(ht:tags<=4294967295)(p:Pl)(h:PI N tags p) :
 PI N tags (jI p tags).1/\mr (jI p tags).1=mr p/\mX tags (jI p tags).1=mX tags p/\((jI p tags).2=true->(jI p tags).1.own.tag≠0):=by
 unfold jI
 by_cases h0:p.own.tag=0
 ·rw[au h0];obtain⟨i1,i2,i3,i4⟩:=El hN ht p.free h.free;refine⟨⟨i1,i2,h.old,?_⟩,?_,?_,?_⟩
  ·have:=h.spent;dsimp only;omega
  ·unfold mr ry;dsimp only;rw[au h0];omega
  ·unfold mX ry;dsimp only;rw[au h0,h0,Int.mul_add];omega
  ·intro hq;simpa using hq
 ·rw[ai h0];exact⟨h,rfl,rfl,fun _=>h0⟩
theorem BD(l:List Od)(f:Od->Bool):mW ((l.filter f).map (·.ref))+mW ((l.filter fun o=> !f o).map (·.ref))=mW (l.map (·.ref)):=by
 induction l with
 |nil=>rfl
 |cons o l ih=>cases hf:f o<;>simp[hf,mY]<;>omega
theorem En(l:List Od)(f:Od->Bool):((l.filter f).length:Int)+(l.filter fun o=> !f o).length=l.length:=by
 induction l with
 |nil=>rfl
 |cons o l ih=>cases hf:f o<;>simp[hf]<;>omega
theorem Eo(p:Pl)(f:Od->Bool)(h:PI N tags p):PI N tags (j7 p f)/\mr (j7 p f)=mr p/\mX tags (j7 p f)=mX tags p/\(j7 p f).own=p.own:=by
 refine⟨⟨h.own,?_,?_,h.spent⟩,?_,?_,rfl⟩
 ·intro s hs;unfold j7 at hs;rcases List.mem_append.1 hs with hs|hs
  ·exact h.free s hs
  ·obtain⟨o,ho,rfl⟩:=List.mem_map.1 hs;exact(h.old o (List.mem_filter.1 ho).1).KF
 ·intro o ho;exact h.old o (List.mem_filter.1 ho).1
 ·have:=En p.old f;unfold mr ry j7;dsimp only;simp only[eN,eK,Int.natCast_add];omega
 ·have:=BD p.old f;unfold mX ry j7;dsimp only;rw[tR];omega
theorem Ep(p:Pl)(r:Rf)(g:Int)(h:PI N tags p)(hr:xS N tags r):PI N tags (lh p r g)/\mr (lh p r g)=mr p+1/\mX tags (lh p r g)=mX tags p+r.tag/\(lh p r g).own=p.own:=by
 refine⟨⟨h.own,h.free,?_,h.spent⟩,?_,?_,rfl⟩
 ·intro o ho;rcases List.mem_append.1 ho with ho|ho
  ·exact h.old o ho
  ·rw[List.mem_singleton.1 ho];exact hr
 ·unfold mr ry lh;simp;omega
 ·unfold mX ry lh;dsimp only;rw[List.map_append,tR];simp[mW];omega
theorem BF(p:Pl)(h:PI N tags p)(h0:p.own.tag≠0):PI N tags (dN p)/\mr (dN p)=mr p-1/\mX tags (dN p)=mX tags p-p.own.tag+1:=by
 refine⟨⟨.inl rfl,h.free,h.old,h.spent⟩,?_,?_⟩
 ·unfold mr ry dN oK;rw[ai h0];simp;omega
 ·unfold mX ry dN oK;rw[ai h0];simp;omega
theorem QW(p:Pl)(h:PI N tags p):mX tags p<=tags*mr p:=by
 have h1:=Gy p.free (fun s hs=>(h.free s hs).2.2.2);have h2:=Gy (tags:=tags) (p.old.map (·.ref)) (fun s hs=>by obtain⟨o,ho,rfl⟩:=List.mem_map.1 hs;exact(h.old o ho).2.2.2);simp only[eK]at h2;unfold mX mr ry;rw[Int.mul_add,Int.mul_add,Int.mul_add];rcases h.own with h0|h0
 ·rw[au h0,h0];simp;omega
 ·have:p.own.tag≠0:=by unfold xS at h0;omega
  rw[ai this];unfold xS at h0;simp;omega
end
end Mo
namespace Mo
theorem cM{a:Int}(w:Int)(ha:0<a):ax (setAt L a w) 0=ax L 0:=by unfold ax setAt;rw[ai ae,ai ae,ai ae];show(L.set a.toNat w).getD 0 0=L.getD 0 0;rw[eR,eR,List.getElem?_set_ne ae]
theorem tS(w:Int)(h:0<L.length):ax (setAt L 0 w) 0=w:=by unfold ax setAt;simp[h]
theorem LV(h:(gy (ax L 0)).2=true):0<L.length:=by
 rcases L with _|⟨a,l⟩
 ·exfalso;have:ax [] 0=0:=rfl;rw[this]at h;unfold gy at h;rw[au (.inr rfl)]at h;cases h
 ·simp
def tT(L:List Int):Int:=(gy (ax L 0)).1.tag
def TK(tags:Int)(r:Rn):Int:=rz tags r.k+tT r.L-(if r.gF=true then 1 else 0)
structure WI (N tags:Int) (r:Rn):Prop where
 k:KI N tags r.k
 good:(gy (ax r.L 0)).2=true
 root:xS N tags (gy (ax r.L 0)).1
structure Ok (N tags A F:Int) (r:Rn):Prop where
 w:WI N tags r
 cnt:pV r.k=A
 LW:TK tags r=F
structure WC (N tags:Int) (c:bH) (t:Int):Prop where
 n:N<=65535
 tg:tags=c.tags
 tags:tags<=4294967295
 th:1<=c.threads
 t0:0<=t
 size:0<=aZ c
section
variable{N tags A F:Int} {r r':Rn} {c:bH} {t:Int}
theorem gA(h:r.k.gF=false):pend r.k=false:=by unfold pend;rw[h];rfl
theorem gB{k:Tk}(h:k.pc≠20)(h1:k.pc≠21):pend k=false:=by unfold pend;simp[h,h1]
theorem Ok.of(h:Ok N tags A F r)(hp:r'.k.az=r.k.az)(hd:pend r'.k=pend r.k)(hb:r'.k.base=r.k.base\/pend r.k=false)(hL:ax r'.L 0=ax r.L 0)(hw:r'.gF=r.gF)(hk:KI N tags r'.k):Ok N tags A F r':=by
 refine⟨⟨hk,by rw[hL];exact h.w.good,by rw[hL];exact h.w.root⟩,?_,?_⟩
 ·rw[<-h.cnt];unfold pV;rw[hp,hd]
 ·rw[<-h.LW];unfold TK rz tT;rw[hp,hd,hL,hw];rcases hb with hb|hb
  ·rw[hb]
  ·rw[hb];simp
theorem BG(h:Ok N tags A F r)(ho:r.k.az.own.tag≠0/\r.k.jr=false)(hw:r.k.gF=false):Ok N tags A F (Rn.again c r):=by
 have hk:=h.w.k;have key:∀n:Int,(n=16\/n=19\/n=3)->Ok N tags A F (r.pc n):=by
  intro n hn;refine h.of rfl ?_ (.inl rfl) rfl rfl ⟨hk.az,fun _ _=>ho,fun _=>hw,⟨fun _=>hw,fun a=>by exfalso;first|(dsimp only at a;omega)|(simp only[Rn.pc]at a;omega)⟩,fun hq=>?_,?_,?_,hk.i0,hk.j0,?_⟩
  ·rw[gA hw,gA];exact hw
  ·exact hk.scan hq
  ·intro h1 h2;exfalso;simp only[Rn.pc]at h1 h2;omega
  ·intro hq;rw[gA]at hq;cases hq;exact hw
  ·show 0<=n;omega
 unfold Rn.again;split
 ·exact key _ (.inl rfl)
 ·split
  ·exact key _ (.inr (.inl rfl))
  ·exact key _ (.inr (.inr rfl))
theorem zR(h:Ok N tags A F r)(ho:r.k.az.own.tag≠0/\r.k.jr=false)(hw:r.k.gF=false):Ok N tags A F (Rn.fail c r):=by have hk:=h.w.k;unfold Rn.fail;exact BG (h.of rfl rfl (.inl rfl) rfl rfl ⟨hk.az,hk.mid,hk.early,hk.late,hk.scan,hk.base,hk.YI,hk.i0,hk.j0,hk.p0⟩) ho hw
theorem Gz(C:WC N tags c t)(h:Ok N tags A F r)(hw:r.k.gF=false)(bM:r.k.pc<=2\/20<=r.k.pc):Ok N tags A F (Rn.take c r):=by
 have hk:=h.w.k;obtain⟨s1,s2,s3,s4⟩:=Em C.n C.tags r.k.az hk.az;rw[C.tg]at s1 s2 s3 s4;have h1:Ok N c.tags A F {r with k:={r.k with az:=(jI r.k.az c.tags).1}}:=by
  have hq:pend r.k=false:=gA hw;refine⟨⟨⟨s1,fun a b=>by exfalso;dsimp only at a b;omega,hk.early,hk.late,hk.scan,fun a b=>by exfalso;dsimp only at a b;omega,fun a=>?_,hk.i0,hk.j0,hk.p0⟩,h.w.good,?_⟩,?_,?_⟩
  ·rw[gA (r:={r with k:={r.k with az:=(jI r.k.az c.tags).1}}) hw]at a;cases a
  ·have:=h.w.root;rw[C.tg]at this;exact this
  ·rw[<-h.cnt];unfold pV;rw[<-s2,hq,gA (r:={r with k:={r.k with az:=(jI r.k.az c.tags).1}}) hw]
  ·rw[<-h.LW];unfold TK rz;rw[C.tg, <-s3,hq,gA (r:={r with k:={r.k with az:=(jI r.k.az c.tags).1}}) hw]
 rw[C.tg];unfold Rn.take;dsimp only;split;case isTrue hb=>have gR:=h1.w.k;exact BG (h1.of rfl rfl (.inl rfl) rfl rfl ⟨gR.az,fun _ _=>⟨s4 hb,rfl⟩,gR.early,gR.late,fun _=>rfl,gR.base,gR.YI,gR.i0,gR.j0,gR.p0⟩) ⟨s4 hb,rfl⟩ hw
 case isFalse hb =>
  have gR:=h1.w.k;split
  ·refine h1.of rfl ?_ (.inl rfl) rfl rfl ⟨gR.az,fun a b=>by exfalso;dsimp only at a b;omega,fun _=>hw,⟨fun _=>hw,fun a=>by exfalso;first|(dsimp only at a;omega)|(simp only[Rn.pc]at a;omega)⟩,fun a=>?_,fun a b=>by exfalso;dsimp only at a b;omega,fun a=>?_,gR.i0,gR.j0,?_⟩
   ·unfold pend;rw[hw];rfl
   ·rw[hw]at a;cases a
   ·unfold pend at a;simp[hw]at a
   ·show(0:Int)<=24;omega
  ·unfold Rn.refuse;refine h1.of rfl ?_ (.inl rfl) rfl rfl ⟨gR.az,fun a b=>by exfalso;dsimp only at a b;omega,fun _=>hw,⟨fun _=>hw,fun a=>by exfalso;first|(dsimp only at a;omega)|(simp only[Rn.pc]at a;omega)⟩,fun a=>rfl,fun a b=>by exfalso;dsimp only at a b;omega,fun a=>?_,gR.i0,gR.j0,?_⟩
   ·unfold pend;rw[hw];rfl
   ·unfold pend at a;simp[hw]at a
   ·show(0:Int)<=28;omega
theorem qu(h:Ok N tags A F r)(h8:8<=r.k.pc)(h10:r.k.pc<=10):Ok N tags A F (Rn.eC c r):=by
 have hk:=h.w.k;have hw:=hk.early ae;have ho:=hk.mid ae ae;have hb:=hk.base ae ae;have hi:=hk.i0;unfold Rn.eC;split
 ·refine h.of rfl ?_ (.inl rfl) rfl rfl ⟨hk.az,fun _ _=>ho,fun _=>hw,⟨fun _=>hw,fun a=>by exfalso;first|(dsimp only at a;omega)|(simp only[Rn.pc]at a;omega)⟩,hk.scan,fun _ _=>hb,fun a=>?_,bW _,hk.j0,?_⟩
  ·unfold pend;rw[hw];rfl
  ·unfold pend at a;simp[hw]at a
  ·show(0:Int)<=11;omega
 ·refine h.of rfl ?_ (.inl rfl) rfl rfl ⟨hk.az,fun _ _=>ho,fun _=>hw,⟨fun _=>hw,fun a=>by exfalso;first|(dsimp only at a;omega)|(simp only[Rn.pc]at a;omega)⟩,hk.scan,fun _ _=>hb,fun a=>?_,?_,hk.j0,?_⟩
  ·unfold pend;rw[hw];rfl
  ·unfold pend at a;simp[hw]at a
  ·dsimp only;omega
  ·show(0:Int)<=8;omega
theorem oQ(h:Ok N tags A F r)(h8:11<=r.k.pc)(h10:r.k.pc<=12):Ok N tags A F (Rn.cL c t r):=by
 have hk:=h.w.k;have hw:=hk.early ae;have ho:=hk.mid ae ae;have hb:=hk.base ae ae;have hi:=hk.i0;unfold Rn.cL;split
 ·refine h.of rfl ?_ (.inl rfl) rfl rfl ⟨hk.az,fun _ _=>ho,fun _=>hw,⟨fun _=>hw,fun a=>by exfalso;first|(dsimp only at a;omega)|(simp only[Rn.pc]at a;omega)⟩,hk.scan,fun _ _=>hb,fun a=>?_,?_,hk.j0,?_⟩
  ·unfold pend;rw[hw];rfl
  ·unfold pend at a;simp[hw]at a
  ·dsimp only;omega
  ·show(0:Int)<=11;omega
 ·refine h.of rfl ?_ (.inl rfl) rfl rfl ⟨hk.az,fun _ _=>ho,fun _=>hw,⟨fun _=>hw,fun a=>by exfalso;first|(dsimp only at a;omega)|(simp only[Rn.pc]at a;omega)⟩,hk.scan,fun _ _=>hb,fun a=>?_,bW _,hk.j0,?_⟩
  ·unfold pend;rw[hw];rfl
  ·unfold pend at a;simp[hw]at a
  ·show(0:Int)<=13;omega
theorem uM{pc seq:Int}{q:Rq}{p:Pl}{rs:Rs}{b:Bool}(hp:PI N tags p)(h:pc<=2\/22<=pc)(h0:0<=pc):KI N tags (eX pc seq q p rs b):=⟨hp,fun a b=>by exfalso;simp only[eX]at a b;omega,fun _=>rfl,⟨fun _=>rfl,fun a=>by exfalso;simp only[eX]at a;omega⟩,fun a=>(by cases a),fun a b=>by exfalso;simp only[eX]at a b;omega,fun a=>(by simp[pend,eX]at a),bW _,bW _,h0⟩
theorem sT(h:Ok N tags A F r)(hq:pend r.k=false):Ok N tags A F r.finish:=by unfold Rn.finish;exact h.of rfl (by rw[hq];rfl) (.inr hq) rfl rfl (uM h.w.k.az ae ae)
theorem BH(h:Ok N tags A F r)(n:Int)(hn:22<=n)(Gu:n<=28)(hq:pend r.k=false):Ok N tags A F (r.pc n):=by
 have hk:=h.w.k;refine h.of rfl ?_ (.inl rfl) rfl rfl ⟨hk.az,fun a b=>by exfalso;simp only[Rn.pc]at a b;omega,fun a=>by exfalso;simp only[Rn.pc]at a;omega,⟨fun a=>by exfalso;simp only[Rn.pc]at a;omega,fun a=>by exfalso;simp only[Rn.pc]at a;omega⟩,hk.scan,fun a b=>by exfalso;simp only[Rn.pc]at a b;omega,fun a=>?_,hk.i0,hk.j0,?_⟩
 ·rw[hq];exact gB (by simp only[Rn.pc];omega) (by simp only[Rn.pc];omega)
 ·rw[gB (by simp only[Rn.pc];omega) (by simp only[Rn.pc];omega)]at a;cases a
 ·show 0<=n;omega
theorem qw(C:WC N tags c t)(h:Ok N tags A F r)(hp:22<=r.k.pc)(nA:r.k.pc<=28):Ok N tags A F (Rn.dy c r):=by
 have hk:=h.w.k;unfold Rn.dy;split;case isTrue hs =>
  have hw:r.k.gF=false:=by
   cases hh:r.k.gF
   ·rfl
   ·rw[hk.scan hh]at hs;cases hs
  exact Gz C h hw (.inr ae)
 case isFalse hs=>exact BH h 28 ae ae (gB ae ae)
theorem vQ(h:Ok N tags A F r)(hp:22<=r.k.pc)(nA:r.k.pc<=28):Ok N tags A F (Rn.owned c r):=by
 have hq:pend r.k=false:=gB ae ae;unfold Rn.owned;split
 ·exact sT h hq
 ·split
  ·exact BH h 24 ae ae hq
  ·exact BH h 28 ae ae hq
theorem vR(h:Ok N tags A F r){a:Int}(ha:0<a)(w:Int):Ok N tags A F (r.store a w):=h.of rfl rfl (.inl rfl) (cM w ha) rfl h.w.k
end
end Mo
namespace Mo
section
variable{N tags A F:Int} {r r':Rn} {c:bH} {t:Int}
theorem go_ok(h:Ok N tags A F r)(hw:r.k.gF=false)(hp:r'.k.az=r.k.az)(hw':r'.k.gF=false)(h0:0<=r'.k.pc/\r'.k.pc≠21)(hm:3<=r'.k.pc->r'.k.pc<=19->r.k.az.own.tag≠0/\r'.k.jr=false)(hb:4<=r'.k.pc->r'.k.pc<=15->xS N tags r'.k.base)(hi:0<=r'.k.i)(hj:0<=r'.k.j)(hL:ax r'.L 0=ax r.L 0)(hv:r'.gF=r.gF):Ok N tags A F r':=by
 have hk:=h.w.k
 refine h.of hp ?_ (.inr (gA hw)) hL hv ⟨by rw[hp];exact hk.az,by rw[hp];exact hm,fun _=>hw',⟨fun _=>hw',fun a=>absurd a h0.2⟩,fun a=>(by rw[hw']at a;cases a),hb,fun a=>?_,hi,hj,h0.1⟩
 ·rw[gA hw,gA hw']
 ·rw[gA hw']at a;cases a
theorem LX(_:WC N tags c t){i:Int}(hi:0<=i):0<lN c i:=by unfold lN;omega
theorem IB(C:WC N tags c t){i j:Int}(hi:0<=i)(hj:0<=j):0<iK c i+j:=by have:=C.th;unfold iK;omega
theorem rA(C:WC N tags c t){i:Int}(hi:0<=i):0<gZ c i:=by have:=C.th;unfold gZ;omega
theorem uN(C:WC N tags c t){i:Int}(hi:0<=i):0<ou c i:=by have:=C.th;unfold ou;omega
theorem yH(C:WC N tags c t){i:Int}(hi:0<=i):0<cn c i:=by have:=C.th;unfold cn;omega
theorem sU(C:WC N tags c t){i:Int}(hi:0<=i):0<bA c i:=by have h1:=C.th;have h2:=C.size;have:0<=i*(1+aZ c):=gO hi ae;unfold bA;omega
theorem LY(C:WC N tags c t)(h:Ok N tags A F r)(h1:1<=r.k.pc)(h5:r.k.pc<=5):Ok N tags A F (Rn.enter c t r):=by
 have hk:=h.w.k;have hw:=hk.early ae;unfold Rn.enter;split
 ·exact go_ok h hw rfl hw (by dsimp only;omega) (fun a b=>by exfalso;dsimp only at a;omega) (fun a b=>by exfalso;dsimp only at a;omega) hk.i0 hk.j0 rfl rfl
 split
 ·exact Gz C (vR h (uN C C.t0) _) hw (.inl (by show r.k.pc<=2;omega))
 split;case isTrue h3=>exact go_ok h hw rfl hw (by dsimp only;omega) (fun a b=>hk.mid ae ae) (fun _ _=>h.w.root) hk.i0 hk.j0 rfl rfl
 split;case isTrue h4=>exact go_ok h hw rfl hw (by simp only[Rn.pc];omega) (fun a b=>hk.mid ae ae) (fun _ _=>hk.base ae ae) hk.i0 hk.j0 (cM _ (rA C C.t0)) rfl
 split;case isTrue h5 =>
  split
  ·exact zR h (hk.mid ae ae) hw
  ·exact go_ok h hw rfl hw (by simp only[Rn.pc];omega) (fun a b=>hk.mid ae ae) (fun _ _=>hk.base ae ae) hk.i0 hk.j0 rfl rfl
 ·exact h
theorem IC(_:WC N tags c t)(h:Ok N tags A F r)(h1:6<=r.k.pc)(h5:r.k.pc<=7):Ok N tags A F (Rn.eD c t r):=by
 have hk:=h.w.k;have hw:=hk.early ae;have ho:=hk.mid ae ae;have hb:=hk.base ae ae;have hi:=hk.i0;unfold Rn.eD;split
 ·split
  ·exact zR h ho hw
  ·exact VW
 ·dsimp only;split
  ·exact go_ok h hw rfl hw (by dsimp only;omega) (fun _ _=>ho) (fun _ _=>hb) (by dsimp only;omega) hk.j0 rfl rfl
  ·split
   ·exact VW
   ·exact VW
theorem ID(h:Ok N tags A F r)(h1:8<=r.k.pc)(h5:r.k.pc<=10):Ok N tags A F (Rn.eE c r):=by
 have hk:=h.w.k;have hw:=hk.early ae;have ho:=hk.mid ae ae;have hb:=hk.base ae ae;have hj:=hk.j0;unfold Rn.eE;split
 ·dsimp only;have h2:Ok N tags A F {r with k:={r.k with word:=ax r.L (lN c r.k.i)}}:=go_ok h hw rfl hw ⟨hk.p0,by dsimp only;omega⟩ (fun _ _=>ho) (fun _ _=>hb) hk.i0 hk.j0 rfl rfl;split
  ·exact qu h2 h1 h5
  ·exact go_ok h hw rfl hw (by dsimp only;omega) (fun _ _=>ho) (fun _ _=>hb) hk.i0 (bW _) rfl rfl
 split
 ·refine go_ok h hw rfl hw ?_ (fun _ _=>ho) (fun _ _=>hb) hk.i0 (by dsimp only;omega) rfl rfl;dsimp only;split<;>omega
 split
 ·dsimp only;split
  ·exact qu (go_ok h hw rfl hw ⟨hk.p0,by dsimp only;omega⟩ (fun _ _=>ho) (fun _ _=>hb) hk.i0 hk.j0 rfl rfl) h1 h5
  ·exact qu h h1 h5
 ·exact h
theorem Er(C:WC N tags c t)(h:Ok N tags A F r)(h1:11<=r.k.pc)(h5:r.k.pc<=12):Ok N tags A F (Rn.eF c t r):=by
 have hk:=h.w.k;have hw:=hk.early ae;have ho:=hk.mid ae ae;have hb:=hk.base ae ae;unfold Rn.eF;dsimp only;split
 ·have h2:Ok N tags A F {r with k:={r.k with word:=ax r.L (cn c r.k.i)}}:=go_ok h hw rfl hw ⟨hk.p0,by dsimp only;omega⟩ (fun _ _=>ho) (fun _ _=>hb) hk.i0 hk.j0 rfl rfl;split
  ·exact oQ h2 h1 h5
  ·exact go_ok h hw rfl hw (by simp only[Rn.pc];omega) (fun _ _=>ho) (fun _ _=>hb) hk.i0 hk.j0 rfl rfl
 ·have h2:∀L',ax L' 0=ax r.L 0->Ok N tags A F {r with L:=L',k:={r.k with cu:=r.k.cu+1}}:=fun L' hL=>go_ok h hw rfl hw ⟨hk.p0,by dsimp only;omega⟩ (fun _ _=>ho) (fun _ _=>hb) hk.i0 hk.j0 hL rfl;have hL:=cM (L:=r.L) (j6 c r.k.buf r.k.i) (yH C hk.i0);by_cases hq:ax r.L (cn c r.k.i)=r.k.word
  ·rw[au (Or.inl hq),au hq];exact oQ (h2 _ hL) h1 h5
  ·rw[ai hq];split
   ·exact oQ (h2 _ rfl) h1 h5
   ·exact go_ok h hw rfl hw (by simp only[Rn.pc];omega) (fun _ _=>ho) (fun _ _=>hb) hk.i0 hk.j0 rfl rfl
theorem IE(C:WC N tags c t)(h:Ok N tags A F r)(hv:r.gF=false)(h1:13<=r.k.pc)(h5:r.k.pc<=15):Ok N tags A F (Rn.writes c t r):=by
 have hk:=h.w.k;have hw:=hk.early ae;have ho:=hk.mid ae ae;have hb:=hk.base ae ae;have hi:=hk.i0;have jN:xS N tags r.k.az.own:=hk.az.own.resolve_left ho.1;have ha:=sU C jN.1;have hq:pend r.k=false:=gA hw;unfold Rn.writes;dsimp only;split
 ·exact go_ok h hw rfl hw (by simp only[Rn.pc];omega) (fun _ _=>ho) (fun _ _=>hb) hk.i0 hk.j0 (cM _ ha) rfl
 split
 ·have hL:∀w,ax (setAt r.L (bA c r.k.az.own.ix+1+r.k.i) w) 0=ax r.L 0:=fun w=>cM w ae;split
  ·exact go_ok h hw rfl hw (by simp only[Rn.pc];omega) (fun _ _=>ho) (fun _ _=>hb) (by simp only[Rn.pc];omega) hk.j0 (hL _) rfl
  ·exact go_ok h hw rfl hw (by dsimp only;omega) (fun _ _=>ho) (fun _ _=>hb) (by dsimp only;omega) hk.j0 (hL _) rfl
 split;case isTrue h15 =>
  split
  ·exact zR h ho hw
  case isFalse heq =>
   have heq:ax r.L 0=bL r.k.base:=Decidable.not_not.1 heq;have hg:=jN.good C.n C.tags;have hbg:=hb.good C.n C.tags;obtain⟨s1,s2,s3⟩:=BF r.k.az hk.az ho.1;have LZ:gy (ax (setAt r.L 0 (bL r.k.az.own)) 0)=(r.k.az.own,true):=by rw[tS _ (LV h.w.good)];exact oP hg
   have hold:gy (ax r.L 0)=(r.k.base,true):=by rw[heq];exact oP hbg
   refine⟨⟨⟨s1,fun a b=>by exfalso;dsimp only at b;omega,fun a=>by exfalso;dsimp only at a;omega,⟨fun a=>by exfalso;dsimp only at a;omega,fun a=>by exfalso;dsimp only at a;omega⟩,fun _=>?_,fun a b=>by exfalso;dsimp only at b;omega,fun _=>hb,hk.i0,hk.j0,by dsimp only;omega⟩,?_,?_⟩,?_,?_⟩
   ·exact ho.2
   ·dsimp only;rw[LZ]
   ·dsimp only;rw[LZ];exact jN
   ·rw[<-h.cnt];unfold pV;rw[hq];have:pend {r.k with gF:=true,res:=fS c r.k.next t,az:=dN r.k.az,pc:=20}=true:=rfl;rw[this];dsimp only;rw[s2];simp
   ·rw[<-h.LW];unfold TK rz tT;rw[hq,hold,hv];have:pend {r.k with gF:=true,res:=fS c r.k.next t,az:=dN r.k.az,pc:=20}=true:=rfl;dsimp only;rw[this,LZ,s3];simp;omega
 ·exact h
theorem BI(C:WC N tags c t)(h:Ok N tags A F r)(h1:16<=r.k.pc)(h5:r.k.pc<=19):Ok N tags A F (Rn.bT c t r):=by
 have hk:=h.w.k;have hw:=hk.early ae;have ho:=hk.mid ae ae;have hj:=hk.j0;unfold Rn.bT;split
 ·exact go_ok h hw rfl hw (by dsimp only;omega) (fun _ _=>ho) (fun a b=>by exfalso;dsimp only at b;omega) hk.i0 (bW _) (cM (L:=r.L) (a:=2) ((ax r.L 2+1)%18446744073709551616) ae) rfl
 split
 ·refine go_ok h hw rfl hw ?_ (fun _ _=>ho) (fun a b=>?_) hk.i0 (by dsimp only;omega) (cM _ (IB C C.t0 hj)) rfl
  ·dsimp only;split<;>omega
  ·exfalso;dsimp only at b;split at b<;>omega
 split
 ·exact go_ok h hw rfl hw (by dsimp only;omega) (fun _ _=>ho) (fun a b=>by exfalso;dsimp only at a;omega) hk.i0 hk.j0 (cM _ (LX C C.t0)) rfl
 split
 ·exact go_ok h hw rfl hw (by dsimp only;omega) (fun _ _=>ho) (fun a b=>by exfalso;dsimp only at b;omega) hk.i0 hk.j0 rfl rfl
 ·exact h
theorem nQ(h:Ok N tags A F r)(hq:pend r.k=false)(hp:r'.k.az=r.k.az)(hw':r'.k.gF=r.k.gF)(hs:r'.k.jr=r.k.jr)(h0:22<=r'.k.pc)(VX:r'.k.pc<=28)(hi:0<=r'.k.i)(hj:0<=r'.k.j)(hL:ax r'.L 0=ax r.L 0)(hv:r'.gF=r.gF):Ok N tags A F r':=by
 have hk:=h.w.k
 have hq':pend r'.k=false:=gB ae ae
 refine h.of hp (by rw[hq,hq']) (.inr hq) hL hv ⟨by rw[hp];exact hk.az,fun a b=>by exfalso;omega,fun a=>by exfalso;omega,⟨fun a=>by exfalso;omega,fun a=>by exfalso;omega⟩,?_,fun a b=>by exfalso;omega,fun a=>?_,hi,hj,ae⟩
 ·rw[hw',hs];exact hk.scan
 ·rw[hq']at a;cases a
theorem QX(C:WC N tags c t)(h:Ok N tags A F r)(_:20<=r.k.pc)(_:r.k.pc<=23):Ok N tags A F (Rn.ends c t r):=by
 have hk:=h.w.k;unfold Rn.ends;split;case isTrue h20 =>
  by_cases hw:r.k.gF=true
  ·have hp:pend r.k=true:=by unfold pend;rw[hw,h20];rfl
   rw[hw,au rfl];refine h.of rfl ?_ (.inl rfl) (cM _ (rA C C.t0)) rfl ⟨hk.az,fun a b=>by exfalso;dsimp only at b;omega,fun a=>by exfalso;dsimp only at a;omega,⟨fun a=>by exfalso;dsimp only at a;omega,fun _=>hw⟩,hk.scan,fun a b=>by exfalso;dsimp only at b;omega,fun _=>hk.YI hp,hk.i0,hk.j0,by dsimp only;omega⟩;rw[hp];unfold pend;dsimp only;rw[hw];rfl
  ·have hw':r.k.gF=false:=by simpa using hw
   rw[ai hw];exact nQ h (gA hw') rfl rfl rfl (by dsimp only;omega) (by dsimp only;omega) hk.i0 hk.j0 (cM _ (rA C C.t0)) rfl
 split;case isTrue h21 =>
  by_cases hw:r.k.gF=true
  ·have hp:pend r.k=true:=by unfold pend;rw[hw,h21];rfl
   obtain⟨s1,s2,s3,s4⟩:=Ep r.k.az r.k.base (ax r.L 1) hk.az (hk.YI hp);have hq:∀p:Pl,pend {r.k with az:=p,pc:=22}=false:=fun p=>gB (by dsimp only;omega) (by dsimp only;omega);refine⟨⟨⟨s1,fun a b=>by exfalso;dsimp only at b;omega,fun a=>by exfalso;dsimp only at a;omega,⟨fun a=>by exfalso;dsimp only at a;omega,fun a=>by exfalso;dsimp only at a;omega⟩,hk.scan,fun a b=>by exfalso;dsimp only at b;omega,fun a=>?_,hk.i0,hk.j0,by dsimp only;omega⟩,h.w.good,h.w.root⟩,?_,?_⟩
   ·rw[hq]at a;cases a
   ·rw[<-h.cnt];unfold pV;rw[hq,hp];dsimp only;rw[s2];simp
   ·rw[<-h.LW];unfold TK rz;rw[hq,hp];dsimp only;rw[s3];simp
  ·exact absurd (hk.late.2 h21) hw
 split;case isTrue h22 =>
  dsimp only;have h2:Ok N tags A F {r with k:={r.k with word:=ax r.L (cn c t)}}:=nQ h (gB ae ae) rfl rfl rfl (by dsimp only;omega) (by dsimp only;omega) hk.i0 hk.j0 rfl rfl;split
  ·exact vQ h2 (by dsimp only;omega) (by dsimp only;omega)
  ·exact BH h2 23 ae ae (gB (by dsimp only;omega) (by dsimp only;omega))
 split;case isTrue h23 =>
  dsimp only;have h2:∀L',ax L' 0=ax r.L 0->Ok N tags A F {r with L:=L',k:={r.k with cu:=r.k.cu+1,pc:=22}}:=fun L' hL=>nQ h (gB ae ae) rfl rfl rfl (by dsimp only;omega) (by dsimp only;omega) hk.i0 hk.j0 hL rfl;have hL:=cM (L:=r.L) (fQ r.k.res) (yH C C.t0);by_cases hq:ax r.L (cn c t)=r.k.word
  ·rw[au (Or.inl hq),au hq];exact vQ (h2 _ hL) (by dsimp only;omega) (by dsimp only;omega)
  ·rw[ai hq];split
   ·exact vQ (h2 _ rfl) (by dsimp only;omega) (by dsimp only;omega)
   ·exact h2 _ rfl
 ·exact h
theorem Es(C:WC N tags c t)(h:Ok N tags A F r)(h1:24<=r.k.pc)(h5:r.k.pc<=27):Ok N tags A F (Rn.cH c t r):=by
 have hk:=h.w.k;have hi:=hk.i0;have hq:pend r.k=false:=gB ae ae;have back:∀(r1:Rn) (f:Od->Bool),Ok N tags A F r1->pend r1.k=false->Ok N tags A F {r1 with k:={r1.k with az:=j7 r1.k.az f}}:=by
  intro r1 f h hq;have hk:=h.w.k;obtain⟨s1,s2,s3,s4⟩:=Eo r1.k.az f hk.az;have hq':pend {r1.k with az:=j7 r1.k.az f}=false:=hq;refine⟨⟨⟨s1,by dsimp only;rw[s4];exact hk.mid,hk.early,hk.late,hk.scan,hk.base,fun a=>?_,hk.i0,hk.j0,hk.p0⟩,h.w.good,h.w.root⟩,?_,?_⟩
  ·rw[hq']at a;cases a
  ·rw[<-h.cnt];unfold pV;rw[hq,hq'];dsimp only;rw[s2]
  ·rw[<-h.LW];unfold TK rz;rw[hq,hq'];dsimp only;rw[s3]
 unfold Rn.cH;split
 ·dsimp only;have h2:Ok N tags A F {r with k:={r.k with word:=ax r.L 1,i:=0,all:=true,pc:=25}}:=nQ h hq rfl rfl rfl (by dsimp only;omega) (by dsimp only;omega) (bW _) hk.j0 rfl rfl;have h3:=back _ (fun o=>past o.fD (ax r.L 1)) h2 (gB (by dsimp only;omega) (by dsimp only;omega));split
  ·exact qw C h3 (by dsimp only;omega) (by dsimp only;omega)
  ·exact h3
 split
 ·dsimp only;split
  ·exact nQ h hq rfl rfl rfl (by dsimp only;omega) (by dsimp only;omega) (by dsimp only;omega) hk.j0 rfl rfl
  ·refine nQ h hq rfl rfl rfl ?_ ?_ (bW _) hk.j0 rfl rfl
   ·dsimp only;split<;>omega
   ·dsimp only;split<;>omega
 split
 ·dsimp only;have fin:∀r1:Rn,Ok N tags A F r1->pend r1.k=false->Ok N tags A F (if needs (r1.pc 27).k.az c.aJ=false then Rn.dy c (r1.pc 27)else r1.pc 27):=by
   intro r1 h1 Ij;have h2:=BH h1 27 ae ae Ij;split
   ·exact qw C h2 (by simp only[Rn.pc];omega) (by simp only[Rn.pc];omega)
   ·exact h2
  by_cases hg:ax r.L 1=r.k.word
  ·rw[au hg];exact fin _ (back (r.store 1 (r.k.word+1)) (fun o=>past o.fD (r.k.word+1)) (vR h ae _) hq) hq
  ·rw[ai hg];exact fin _ h hq
 split
 ·dsimp only;have h2:Ok N tags A F {r with k:={r.k with seen:=r.k.seen++[ax r.L (gZ c r.k.i)],i:=r.k.i+1}}:=nQ h hq rfl rfl rfl (by dsimp only;omega) (by dsimp only;omega) (by dsimp only;omega) hk.j0 rfl rfl;split
  ·exact qw C (back _ (fun o=> !(r.k.seen++[ax r.L (gZ c r.k.i)]).contains (bL o.ref)) h2 (gB (by dsimp only;omega) (by dsimp only;omega))) (by dsimp only;omega) (by dsimp only;omega)
  ·exact h2
 ·exact h
theorem L0(C:WC N tags c t)(h:Ok N tags A F r)(h1:r.k.pc=28):Ok N tags A F (Rn.leave c t r):=by
 have hq:pend r.k=false:=gB ae ae;have h2:=vR h (uN C C.t0) 0;unfold Rn.leave;dsimp only;split
 ·exact sT h2 hq
 ·exact h2.of rfl (by show pend _=pend r.k;rw[hq];rfl) (.inr hq) rfl rfl (uM h.w.k.az ae ae)
theorem uw{p:Prop}[Decidable p]{x y:Rn}(h1:p->Ok N tags A F x)(h2:¬p->Ok N tags A F y):Ok N tags A F (if p then x else y):=by
 split;case isTrue h=>exact h1 h
 case isFalse h=>exact h2 h
theorem L3(C:WC N tags c t)(h:Ok N tags A F r)(h1:29<=r.k.pc):Ok N tags A F (Rn.waits c t r):=by
 have hk:=h.w.k;have hw:=hk.late.1 h1;have hm:∀{n:Int} {P:Prop},20<=n->3<=n->n<=19->P:=fun a _ b=>by exfalso;omega
 have hb:∀{n:Int} {P:Prop},20<=n->4<=n->n<=15->P:=fun a _ b=>by exfalso;omega
 unfold Rn.waits;refine uw (fun _=>?_) (fun _=>?_)
 ·dsimp only;refine uw (fun _=>?_) (fun _=>?_)
  ·refine sT (go_ok h hw rfl hw (by dsimp only;omega) (hm (by dsimp only;omega)) (hb (by dsimp only;omega)) hk.i0 hk.j0 rfl rfl) (gA hw)
  ·exact go_ok h hw rfl hw (by simp only[Rn.pc];omega) (hm (by simp only[Rn.pc];omega)) (hb (by simp only[Rn.pc];omega)) hk.i0 hk.j0 rfl rfl
 refine uw (fun _=>?_) (fun _=>?_)
 ·exact VY
 refine uw (fun _=>?_) (fun _=>?_)
 ·exact TL
 refine uw (fun _=>?_) (fun _=>?_)
 ·exact VY
 refine uw (fun _=>?_) (fun _=>?_)
 ·exact TM
 refine uw (fun _=>?_) (fun _=>?_)
 ·have hx:∀p:Prop,[Decidable p]->(20:Int)<=(if p then 35 else 37):=fun p _=>by split<;>omega
  exact go_ok h hw rfl hw (by have:=hx (ax r.L 0=bL r.k.base);dsimp only;omega) (hm (hx _)) (hb (hx _)) hk.i0 hk.j0 rfl rfl
 refine uw (fun _=>?_) (fun _=>?_)
 ·have hx:∀p:Prop,[Decidable p]->(20:Int)<=(if p then 36 else 37):=fun p _=>by split<;>omega
  exact go_ok h hw rfl hw (by have:=hx (ax r.L (bA c r.k.base.ix)=r.k.base.tag);simp only[Rn.pc];omega) (hm (hx _)) (hb (hx _)) hk.i0 hk.j0 rfl rfl
 refine uw (fun _=>?_) (fun _=>?_)
 ·exact VY
 refine uw (fun _=>?_) (fun _=>?_)
 ·exact TM
 refine uw (fun _=>?_) (fun _=>?_)
 ·dsimp only;refine uw (fun _=>?_) (fun _=>?_)
  ·exact go_ok h hw rfl hw (by dsimp only;omega) (hm (by dsimp only;omega)) (hb (by dsimp only;omega)) hk.i0 hk.j0 (cM _ (uN C C.t0)) rfl
  ·exact TL
 ·exact h
theorem QY(C:WC N tags c t)(h:Ok N tags A F r)(hv:r.gF=false):Ok N tags A F (dY c t r):=by
 have h0:=h.w.k.p0;unfold dY;split
 ·exact h
 split
 ·exact LY C h ae ae
 split
 ·exact IC C h ae ae
 split
 ·exact ID h ae ae
 split
 ·exact Er C h ae ae
 split
 ·exact IE C h hv ae ae
 split
 ·exact BI C h ae ae
 split
 ·exact QX C h ae ae
 split
 ·exact Es C h ae ae
 split
 ·exact L0 C h ae
 ·exact L3 C h ae
end
end Mo
namespace Mo
def ia(f:Tk->Int)(l:List Tk):Int:=(l.map f).sum
theorem rB(f:Tk->Int):∀(l:List Tk) (t:Nat) (x y:Tk),l[t]?=some x->ia f (l.set t y)=ia f l-f x+f y:=by
 intro l;induction l with
 |nil=>intro t x y h;simp at h
 |cons z l ih =>
  intro t x y h;rcases t with _|t
  ·simp at h;subst h;simp[ia];omega
  ·have:=ih t x y (by simpa using h);unfold ia at this ⊢;simp at this ⊢;omega
theorem GA{f g:Tk->Int}(l:List Tk)(h:∀k∈l,f k<=g k):ia f l<=ia g l:=by
 induction l with
 |nil=>exact bW _
 |cons z l ih=>have h1:=ih (fun k hk=>h k (List.mem_cons_of_mem _ hk));have h2:=h z List.mem_cons_self;unfold ia at h1 ⊢;simp;omega
theorem L4(c:Int)(f:Tk->Int)(l:List Tk):ia (fun k=>c*f k) l=c*ia f l:=by
 induction l with
 |nil=>simp[ia]
 |cons z l ih=>unfold ia at ih ⊢;simp[ih,Int.mul_add]
structure MI (N tags:Int) (x:Mc):Prop where
 len:(x.T.length:Int)=x.c.threads
 all:∀k∈x.T,KI N tags k
 good:(gy (ax x.L 0)).2=true
 root:xS N tags (gy (ax x.L 0)).1
 cnt:ia pV x.T=N-1
 LW:ia (rz tags) x.T+tT x.L=x.V.length+1
structure CC (N tags:Int) (c:bH):Prop where
 n:N<=65535
 tg:tags=c.tags
 tags:tags<=4294967295
 th:1<=c.threads
 size:0<=aZ c
theorem CC.wc{c:bH}(h:CC N tags c)(t:Nat):WC N tags c t:=⟨h.n,h.tg,h.tags,h.th,ae,h.size⟩
section
variable{N tags:Int} {x:Mc}
theorem lC(h:t<x.T.length):x.T[t]?=some (bu x t):=by unfold bu;rw[eR,cD h];rfl
theorem MI.bb{k':Tk}{y:Mc}(h:MI N tags x)(ht:t<x.T.length)(hT:y.T=x.T.set t k')(hc:y.c=x.c)(hL:y.L=x.L)(hV:y.V=x.V)(hk:KI N tags k')(h1:pV k'=pV (bu x t))(h2:rz tags k'=rz tags (bu x t)):MI N tags y:=by
 have hg:=lC ht;refine⟨by rw[hT,hc,cK];exact h.len,?_,by rw[hL];exact h.good,by rw[hL];exact h.root,?_,?_⟩
 ·rw[hT];intro k hk';rcases List.mem_or_eq_of_mem_set hk' with h'|h'
  ·exact h.all k h'
  ·rw[h'];exact hk
 ·rw[hT,rB _ _ _ _ _ hg,h1,h.cnt];omega
 ·rw[hT,hL,hV,rB _ _ _ _ _ hg,h2, <-h.LW];omega
theorem MI.same{y:Mc}(h:MI N tags x)(hT:y.T=x.T)(hc:y.c=x.c)(hL:y.L=x.L)(hV:y.V=x.V):MI N tags y:=⟨by rw[hT,hc];exact h.len,by rw[hT];exact h.all,by rw[hL];exact h.good,by rw[hL];exact h.root,by rw[hT];exact h.cnt,by rw[hT,hL,hV];exact h.LW⟩
theorem BJ{q:Rq}(h:MI N tags x)(ht:t<x.T.length):MI N tags (cT x t q).1:=by
 have hk:=h.all _ (dO (lC ht));unfold cT;dsimp only;split
 ·exact h
 case isFalse hz =>
  have hb:(ee x.c (bu x t) q).2=0:=Decidable.not_not.1 hz;unfold ee at hb ⊢;by_cases h0:(bu x t).pc≠0
  ·rw[au h0]at hb;cases hb
  ·rw[ai h0]at hb ⊢;by_cases h1:bt q=false
   ·rw[au h1]at hb;cases hb
   ·rw[ai h1]at hb ⊢;by_cases h2:x.c.bn<=(bu x t).seq
    ·rw[au h2]at hb;cases hb
    ·rw[ai h2];have hp:pend (bu x t)=false:=gB ae ae;have b:=uM (pc:=1) (seq:=(bu x t).seq+1) (q:=q) (rs:=dC) (b:=false) hk.az ae ae;refine h.bb ht rfl rfl rfl rfl ⟨b.az,b.mid,b.early,b.late,b.scan,b.base,b.YI,b.i0,b.j0,b.p0⟩ ?_ ?_
     ·unfold pV;rw[hp];rfl
     ·unfold rz;rw[hp];rfl
theorem yI{q:Rq}:(cT x t q).1.T.length=x.T.length/\(cT x t q).1.c=x.c:=by
 unfold cT;dsimp only;split
 ·exact⟨rfl,rfl⟩
 ·exact⟨cK,rfl⟩
theorem QZ{q:Rq}(h:MI N tags x)(ht:t<x.T.length):MI N tags (j9 x t q).1:=by
 unfold j9;split
 ·exact h
 ·dsimp only;split
  ·exact h.same rfl rfl rfl rfl
  ·exact BJ (x:={x with time:=x.time+1}) (h.same rfl rfl rfl rfl) ht
theorem Q0{ek:Int}{outs:List Int}(h:MI N tags x):MI N tags (jJ x t ek outs).1:=by
 unfold jJ;split
 ·exact h
 ·split
  ·exact h
  ·exact h.same rfl rfl rfl rfl
theorem GC(h:MI N tags x)(ht:t<x.T.length):MI N tags (ea x t)/\(ea x t).T.length=x.T.length/\(ea x t).c=x.c:=by
 unfold ea;split
 ·exact⟨h,rfl,rfl⟩
 ·split
  ·exact⟨h,rfl,rfl⟩
  ·split
   ·exact⟨h.same rfl rfl rfl rfl,rfl,rfl⟩
   ·exact⟨BJ h ht,yI⟩
theorem Q1(C:CC N tags x.c)(h:MI N tags x)(ht:t<x.T.length):MI N tags (lZ x t):=by
 obtain⟨g1,g2,g3⟩:=GC (x:={x with time:=x.time+1}) (t:=t) (h.same rfl rfl rfl rfl) ht;unfold lZ;dsimp only;generalize ea {x with time:=x.time+1} t=y at g1 g2 g3 ⊢;have Et:t<y.T.length:=by rw[g2];exact ht
 have Cy:WC N tags y.c t:=by rw[g3];exact C.wc t
 split
 ·exact g1
 ·have hg:=lC Et;have hk:=g1.all _ (dO hg);have ho:Ok N tags (pV (bu y t)) (rz tags (bu y t)+tT y.L) ⟨bu y t,y.L,0,false,[]⟩:=⟨⟨hk,g1.good,g1.root⟩,rfl,by unfold TK;simp⟩
  have hs:=QY Cy ho rfl;have hc:y.c=x.c:=g3;rw[<-hc];generalize dY y.c t ⟨bu y t,y.L,0,false,[]⟩=r at hs ⊢;have key:∀z:Mc,z.T=y.T.set t r.k->z.c=y.c->z.L=r.L->z.V.length=y.V.length+(if r.gF=true then 1 else 0)->MI N tags z:=by
   intro z zT zc zL zV;have hn:=hs.LW;unfold TK at hn;have hh:=g1.LW;refine⟨by rw[zT,zc,cK];exact g1.len,?_,by rw[zL];exact hs.w.good,by rw[zL];exact hs.w.root,?_,?_⟩
   ·rw[zT];intro k hk';rcases List.mem_or_eq_of_mem_set hk' with h'|h'
    ·exact g1.all k h'
    ·rw[h'];exact hs.w.k
   ·rw[zT,rB _ _ _ _ _ hg,hs.cnt,g1.cnt];omega
   ·rw[zT,zL,rB _ _ _ _ _ hg,zV];split at hn<;>simp_all<;>omega
  by_cases hw:(bu y t).waits=true
  ·rw[au hw];exact aag
  ·rw[ai hw];exact aag
theorem aah(e:Ev)(C:CC N tags x.c)(h:MI N tags x):MI N tags (zz x e).1:=by
 unfold zz;split
 ·exact h
 ·have ht:e.th.toNat<x.T.length:=ae;split
  ·exact Q1 C h ht
  split
  ·exact QZ h ht
  split
  ·exact Q0 h
  ·exact h
theorem MI.law(h:MI N tags x):(x.V.length:Int)<=(N-1)*tags+tags-1/\ia (fun k=>k.az.spent) x.T<N:=by
 have h1:ia (rz tags) x.T<=ia (fun k=>tags*pV k) x.T:=GA x.T (fun k hk=>by
  have hk:=h.all k hk
  have:=QW k.az hk.az
  show mX tags k.az+ _<=tags*(mr k.az+ _)
  rw[Int.mul_add]
  by_cases hp:pend k=true
  ·have:=(hk.YI hp).2.2.2;rw[au hp,au hp];omega
  ·rw[ai hp,ai hp];omega)
 rw[L4,h.cnt]at h1;have h2:=h.LW;have h3:=h.root.2.2.2;have e:tags*(N-1)=(N-1)*tags:=Int.mul_comm _ _;refine⟨by unfold tT at h2;omega,?_⟩;have h4:ia (fun k=>k.az.spent) x.T<=ia pV x.T:=GA x.T (fun k _=>by
  unfold pV mr ry
  split<;>split<;>omega)
 have:=h.cnt;omega
end
theorem zU:∀(l:List Int) (L:List Int) (a:Int),0<a->ax (j8 L a l) 0=ax L 0:=by
 intro l;induction l with
 |nil=>intro L a _;rfl
 |cons w l ih=>intro L a ha;show ax (j8 (setAt L a w) (a+1) l) 0=_;rw[ih _ _ ae,cM _ ha]
theorem L5{c:bH}(h:aN c=true):0<=dm c:=by
 unfold dm;rw[ai (by rw[h];decide)];unfold aN mM iy at h;simp only[dI,cU]at h;obtain⟨⟨⟨⟨⟨⟨ht,_⟩,_⟩,_⟩,_⟩,_⟩,ho⟩:=h;split;case isTrue hk=>rw[ai ae,au hk]at ho;simp only[dI,cU]at ho;have:0<=c.chans*(1+c.cap):=gO ae ae;omega
 case isFalse hk =>
  by_cases h12:c.kind=1\/c.kind=2
  ·rw[au h12]at ho;simp only[dI,cU]at ho;omega
  ·rw[ai h12,ai hk]at ho;cases ho
theorem tU{c:bH}(h:aN c=true):1<=c.threads/\c.threads<=64/\1<=c.nodes/\c.nodes<=64/\1<=c.tags/\c.tags<=4294967295:=by unfold aN iy at h;simp only[dI,cU]at h;omega
theorem vS{c:bH}(h:aN c=true):CC (bI c) c.tags c:=by
 obtain⟨h1,h2,h3,h4,h5,h6⟩:=tU h;have e:bI c=1+c.threads*c.nodes:=by unfold bI;rw[ai (by rw[h];decide)]
 have:c.threads*c.nodes<=64*64:=Int.mul_le_mul h2 h4 ae ae;refine⟨ae,rfl,h6,h1,?_⟩;have:=L5 h;unfold aZ;split<;>omega
theorem Q2{start n:Int}(h0:0<=n)(h1:n<=64)(hs:0<=start)(hn:start+n<=N)(ht:0<=tags):PI N tags (uq start n)/\mr (uq start n)=n/\mX tags (uq start n)=0:=by
 have e:(min (max n 0) 64).toNat=n.toNat:=ae;have ez:∀l:List Nat,mW (l.map fun(i:Nat)=>(⟨start+i,0⟩:Rf))=0:=by
  intro l;induction l with
  |nil=>rfl
  |cons a l ih=>rw[List.map_cons,mY,ih];rfl
 refine⟨⟨.inl rfl,?_,?_,bW _⟩,?_,?_⟩
 ·intro s hs';unfold uq at hs';obtain⟨i,hi,rfl⟩:=List.mem_map.1 hs';rw[e]at hi;have:=List.mem_range.1 hi;unfold KF;dsimp only;omega
 ·intro o ho;cases ho
 ·unfold mr ry uq oK;simp;omega
 ·unfold mX ry uq oK;dsimp only;rw[ez];simp[mW]
theorem L6{c:bH}(h:aN c=true):MI (bI c) c.tags (kG c):=by
 obtain⟨h1,h2,h3,h4,h5,h6⟩:=tU h;have e:bI c=1+c.threads*c.nodes:=by unfold bI;rw[ai (by rw[h];decide)]
 have C:=vS h;have hp:∀t:Nat,t<c.threads.toNat->PI (bI c) c.tags (nI c t)/\mr (nI c t)=c.nodes/\mX c.tags (nI c t)=0:=by intro t ht;have a1:0<=(t:Int)*c.nodes:=gO ae ae;have a2:((t:Int)+1)*c.nodes<=c.threads*c.nodes:=Int.mul_le_mul_of_nonneg_right ae ae;rw[Int.add_mul]at a2;exact Q2 ae h4 ae ae ae
 have hL:ax (iB c) 0=bL ⟨0,1⟩:=by
  have n0:=sU (C.wc 0) (i:=0) (bW _);unfold iB;rw[zU _ _ _ ae,cM _ n0];refine tS _ ?_;rw[gf];have:bo c=bA c (bI c):=by unfold bo;rw[ai (by rw[h];decide)]
  have b:0<=c.threads*c.nodes:=gO ae ae;have:=sU (C.wc 0) (i:=bI c) ae;omega
 have hr:gy (ax (iB c) 0)=(⟨0,1⟩,true):=by rw[hL];exact oP rfl
 have hlen:((List.range c.threads.toNat).length:Int)=c.threads:=by rw[List.length_range];omega
 have aai:∀(f:Tk->Int) (v:Int) (l:List Nat),(∀t∈l,f (mQ c t)=v)->ia f (l.map fun(t:Nat)=>mQ c t)=v*l.length:=by
  intro f v l;induction l with
  |nil=>intro _;simp[ia]
  |cons a l ih=>intro hf;have i1:=ih (fun t ht=>hf t (List.mem_cons_of_mem _ ht));have i2:=hf a List.mem_cons_self;unfold ia at i1 ⊢;simp at i1 ⊢;rw[i1,i2,Int.mul_add];omega
 refine⟨?_,?_,?_,?_,?_,?_⟩
 ·show(((List.range c.threads.toNat).map _).length:Int)=_;rw[eK];exact hlen
 ·intro k hk;obtain⟨t,ht,rfl⟩:=List.mem_map.1 hk;exact uM (hp t (List.mem_range.1 ht)).1 ae ae
 ·show(gy (ax (iB c) 0)).2=true;rw[hr]
 ·show xS _ _ (gy (ax (iB c) 0)).1;rw[hr];have b:0<=c.threads*c.nodes:=gO ae ae;unfold xS;dsimp only;omega
 ·show ia pV ((List.range c.threads.toNat).map fun(t:Nat)=>mQ c t)=_;rw[aai pV c.nodes _ (fun t ht=>?_),hlen,e,Int.mul_comm]
  ·omega
  ·show mr (nI c t)+(if pend (mQ c t)=true then 1 else 0)=_;rw[(hp t (List.mem_range.1 ht)).2.1];simp[pend,mQ,eX]
 ·show ia (rz c.tags) ((List.range c.threads.toNat).map fun(t:Nat)=>mQ c t)+tT (iB c)=_;rw[aai (rz c.tags) 0 _ (fun t ht=>?_)]
  ·unfold tT;rw[hr];simp[kG]
  ·show mX c.tags (nI c t)+(if pend (mQ c t)=true then(mQ c t).base.tag else 0)=_;rw[(hp t (List.mem_range.1 ht)).2.2];simp[pend,mQ,eX]
end Mo
end Go.Proofs.YtjcjjiieblineaaGreat
