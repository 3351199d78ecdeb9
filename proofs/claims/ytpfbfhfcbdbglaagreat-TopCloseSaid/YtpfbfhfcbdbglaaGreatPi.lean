/- Walks and plain facts. No condition. -/
import Derived.Test.YtpfbfhfcbdbglaaGreatPc
import Derived.Test.YtpfbfhfcbdbglaaGreatPe
import Derived.Test.YtpfbfhfcbdbglaaGreatPf
namespace Go.Proofs.YtpfbfhfcbdbglaaGreat
open Go.Proofs.Tryz Mo
set_option maxHeartbeats 8000000
set_option maxRecDepth 100000
set_option linter.all false
variable {t d b' u:Nat}{c:dG}{n:Int}{x:Mc}{r:Rn}{α:Type}{k:Tk}{l:List α}{y:α}
namespace Mo
def LU(c:dG)(x:Op):Prop:=bt x.aQ=true/\(0<=x.th/\x.th<c.threads)/\0<=x.seq/\x.seq<=1048575
structure FB (c:dG) (k:Tk):Prop where
 a:8<=k.pc/\k.pc<=10->(k.found.length:Int)<=k.i
 b:k.pc=11\/k.pc=12->(k.found.length:Int)<=c.threads
 cs:∀x∈k.found,LU c x
 w:k.pc=9\/k.pc=10->k.word<=1048575
section
variable{t:Int}
theorem FB.b9(h:∀x∈k.found,LU c x)(e:k.pc<8\/12<k.pc):FB c k:=⟨λ_=>by omega,λ_=>by omega,h,λ_=>by omega⟩
theorem JO(h:∀x∈r.k.found,LU c x):FB c (Rn.again c r).k:=by
 unfold Rn.again;split
 .exact FB.b9 h (.inr (by show(12:Int)<16;decide))
 .split
  .exact FB.b9 h (.inr (by show(12:Int)<19;decide))
  .exact FB.b9 h (.inl (by show(3:Int)<8;decide))
theorem GY:FB c (Rn.fail c r).k:=JO (by intro x a;cases a)
theorem Qa(h:∀x∈r.k.found,LU c x):FB c (Rn.take c r).k:=by
 unfold Rn.take;dsimp only;split
 .exact JO h
 .exact WC
theorem vk(h:∀x∈r.k.found,LU c x):FB c (Rn.eY c r).k:=by
 unfold Rn.eY;split
 .exact Qa h
 .exact FB.b9 h (.inr (by show(12:Int)<28;decide))
theorem JP(h:∀x∈r.k.found,LU c x):FB c (Rn.owned c r).k:=by
 unfold Rn.owned;split
 .exact YU
 .exact WC
theorem iC{q:Rq}(h:bt q=true):q.cases.length<=3:=by unfold bt at h;simp only[eT,eI]at h;omega
theorem vn(h:∀x∈r.k.found,LU c x)(a:(r.k.found.length:Int)<=r.k.i+1):FB c (Rn.gg c r).k:=by
 unfold Rn.gg;split
 .exact⟨λh=>absurd h (by show ¬(8<=(11:Int)/\(11:Int)<=10);decide),λ_=>by show(r.k.found.length:Int)<=c.threads;omega,h,λh=>absurd h (by show ¬((11:Int)=9\/(11:Int)=10);decide)⟩
 .exact⟨λ_=>a,λh=>absurd h (by show ¬((8:Int)=11\/(8:Int)=12);decide),h,λh=>absurd h (by show ¬((8:Int)=9\/(8:Int)=10);decide)⟩
theorem yF(h:∀x∈r.k.found,LU c x)(b:(r.k.found.length:Int)<=c.threads)(e:bt r.k.aQ=true)(f:(0<=t/\t<c.threads)/\0<=r.k.seq/\r.k.seq<=1048575):FB c (Rn.ej c t r).k:=by
 unfold Rn.ej;split
 .exact⟨λh=>absurd h (by show ¬(8<=(11:Int)/\(11:Int)<=10);decide),λ_=>b,h,λh=>absurd h (by show ¬((11:Int)=9\/(11:Int)=10);decide)⟩
 .refine FB.b9 (λx a=>?_) (.inr (by show(12:Int)<13;decide));rcases List.mem_append.1 a with a|a
  .unfold km at a;exact h x (mK _ _ a)
  .split at a
   .cases a
   .rw[List.mem_singleton]at a;rw[a];exact⟨e,f⟩
theorem GZ{l:List Int}(h:(jr l).2.2=true):bt (jr l).1=true:=by
 unfold jr at *;dsimp only at *;split
 .rename_i k;rw[ay k]at h;have:=k.2.2.2;unfold kg at this;split at this
  .rename_i u;rw[eT]at u;exact u.1
  .rw[<-this]at k;exact absurd k.1 (by decide)
 .rename_i k;rw[au k]at h;cases h
theorem Ug(F:FB c r.k):FB c (Rn.enter c t r).k:=by
 unfold Rn.enter;split
 .exact FB.b9 F.cs (.inl (by show(2:Int)<8;decide))
 split
 .exact Qa F.cs
 split
 .exact FB.b9 F.cs (.inl (by show(4:Int)<8;decide))
 split
 .exact FB.b9 F.cs (.inl (by show(5:Int)<8;decide))
 split
 .split
  .exact GY
  .exact FB.b9 F.cs (.inl (by show(6:Int)<8;decide))
 .exact F
theorem Qb(F:FB c r.k)(b:6<=r.k.pc)(e:r.k.pc<=7):FB c (Rn.fY c t r).k:=by
 unfold Rn.fY;dsimp only;split
 .split
  .exact GY
  .exact FB.b9 F.cs (.inl (by show(7:Int)<8;decide))
 .split
  .exact FB.b9 F.cs (.inl (by show r.k.pc<8;omega))
  .split
   .exact FB.b9 (by intro x a;cases a) (.inr (by show(12:Int)<20;decide))
   .exact⟨λ_=>by show(0:Int)<=0;omega,λh=>absurd h (by show ¬((8:Int)=11\/(8:Int)=12);decide),λx a=>(by cases a),λh=>absurd h (by show ¬((8:Int)=9\/(8:Int)=10);decide)⟩
theorem Qc(F:FB c r.k)(f:8<=r.k.pc)(g:r.k.pc<=10)(i:0<=r.k.i/\r.k.i<c.threads)(j:0<=r.k.word):FB c (Rn.fZ c r).k:=by
 have e:=F.a ⟨f,g⟩;unfold Rn.fZ;dsimp only;split
 .split
  .exact vn F.cs (by show(r.k.found.length:Int)<=r.k.i+1;omega)
  .rename_i d;exact⟨λ_=>e,λh=>absurd h (by show ¬((9:Int)=11\/(9:Int)=12);decide),F.cs,λ_=>by show aG r.L (pg c r.k.i)<=1048575;omega⟩
 split
 .rename_i d;refine⟨λ_=>e,λh=>absurd h ?_,F.cs,λ_=>F.w (.inl d)⟩;show ¬((if r.k.j+1=5 then(10:Int)else 9)=11\/(if r.k.j+1=5 then(10:Int)else 9)=12);split<;>decide
 split
 .rename_i b;split
  .rename_i k;refine vn (λx a=>?_) ?_
   .rcases List.mem_append.1 a with a|a
    .exact F.cs x a
    .rw[List.mem_singleton]at a;rw[a];exact⟨GZ k.2,i,j,F.w (.inr b)⟩
   .show((r.k.found++[_]).length:Int)<=r.k.i+1;rw[fM];simp only[List.length_cons,List.length_nil];omega
  .exact vn F.cs aa
 .exact F
theorem LV(F:FB c r.k)(b:(0<=t/\t<c.threads)/\0<=r.k.seq/\r.k.seq<=1048575)(e:bt r.k.aQ=true)(f:11<=r.k.pc)(g:r.k.pc<=12):FB c (Rn.gi c t r).k:=by
 have a:=F.b aa;have d:=F.cs;unfold Rn.gi;dsimp only;split
 .split
  .exact yF F.cs a e b
  .exact⟨λh=>absurd h (by show ¬(8<=(12:Int)/\(12:Int)<=10);decide),λ_=>a,F.cs,λh=>absurd h (by show ¬((12:Int)=9\/(12:Int)=10);decide)⟩
 .split
  .refine yF ?_ ?_ ?_ b<;>(dsimp only;assumption)
  .exact⟨λh=>absurd h (by show ¬(8<=(11:Int)/\(11:Int)<=10);decide),λ_=>a,F.cs,λh=>absurd h (by show ¬((11:Int)=9\/(11:Int)=10);decide)⟩
theorem Qd(F:FB c r.k)(_h1:13<=r.k.pc)(_h2:r.k.pc<=15):FB c (Rn.writes c t r).k:=by
 unfold Rn.writes;dsimp only;split
 .exact FB.b9 F.cs (.inr (by show(12:Int)<14;decide))
 split
 .split
  .exact FB.b9 F.cs (.inr (by show(12:Int)<15;decide))
  .exact YV
 split
 .split
  .exact GY
  .exact FB.b9 F.cs (.inr (by show(12:Int)<20;decide))
 .exact F
theorem G0(F:FB c r.k)(_h1:16<=r.k.pc)(_h2:r.k.pc<=19):FB c (Rn.cZ c t r).k:=by
 unfold Rn.cZ;dsimp only;split
 .exact FB.b9 F.cs (.inr (by show(12:Int)<17;decide))
 split
 .refine FB.b9 F.cs (.inr ?_);show(12:Int)<(if r.k.j+1=5 then 18 else 17);split<;>decide
 split
 .exact FB.b9 F.cs (.inl (by show(3:Int)<8;decide))
 split
 .exact FB.b9 F.cs (.inr (by show(12:Int)<20;decide))
 .exact F
theorem YW(F:FB c r.k)(_h1:20<=r.k.pc)(_h2:r.k.pc<=23):FB c (Rn.ends c t r).k:=by
 have a:=F.cs;unfold Rn.ends;dsimp only;split
 .refine FB.b9 F.cs (.inr ?_);show(12:Int)<(if r.k.pj=true then 21 else 22);split<;>decide
 split
 .exact FB.b9 F.cs (.inr (by show(12:Int)<22;decide))
 split
 .split
  .exact JP a
  .exact FB.b9 F.cs (.inr (by show(12:Int)<23;decide))
 split
 .split
  .exact JP a
  .exact FB.b9 F.cs (.inr (by show(12:Int)<22;decide))
 .exact F
theorem LW(F:FB c r.k)(_h1:24<=r.k.pc)(_h2:r.k.pc<=27):FB c (Rn.dX c t r).k:=by
 have a:=F.cs;unfold Rn.dX;dsimp only;split
 .split
  .exact vk a
  .exact FB.b9 F.cs (.inr (by show(12:Int)<25;decide))
 split
 .split
  .exact YV
  .refine FB.b9 F.cs (.inr ?_);show(12:Int)<(if _ then 26 else 27);split<;>decide
 split
 .split<;>split<;>first|exact vk a|exact FB.b9 F.cs (.inr (by show(12:Int)<27;decide))
 split
 .split
  .exact vk a
  .exact YV
 .exact F
theorem Uh:FB c (Rn.leave c t r).k:=by
 unfold Rn.leave;dsimp only;split
 .exact YU
 .exact FB.b9 (by intro x a;cases a) (.inr (by show(12:Int)<29;decide))
theorem Ui(F:FB c r.k):FB c (Rn.waits c t r).k:=by
 have a:=F.cs;unfold Rn.waits;dsimp only;by_cases e:r.k.pc=29
 .rw[ay e];split
  .exact YU
  .exact FB.b9 F.cs (.inr (by show(12:Int)<30;decide))
 rw[au e];by_cases e:r.k.pc=30
 .rw[ay e];exact FB.b9 F.cs (.inr (by show(12:Int)<31;decide))
 rw[au e];by_cases e:r.k.pc=31
 .rw[ay e];exact FB.b9 F.cs (.inr (by show(12:Int)<32;decide))
 rw[au e];by_cases e:r.k.pc=32
 .rw[ay e];exact FB.b9 F.cs (.inr (by show(12:Int)<33;decide))
 rw[au e];by_cases e:r.k.pc=33
 .rw[ay e];exact FB.b9 F.cs (.inr (by show(12:Int)<34;decide))
 rw[au e];by_cases e:r.k.pc=34
 .rw[ay e];refine FB.b9 F.cs (.inr ?_);dsimp only;split<;>decide
 rw[au e];by_cases e:r.k.pc=35
 .rw[ay e];refine FB.b9 F.cs (.inr ?_);dsimp only[Rn.pc];split<;>decide
 rw[au e];by_cases e:r.k.pc=36
 .rw[ay e];exact FB.b9 F.cs (.inr (by show(12:Int)<37;decide))
 rw[au e];by_cases e:r.k.pc=37
 .rw[ay e];exact FB.b9 F.cs (.inr (by show(12:Int)<38;decide))
 rw[au e];by_cases e:r.k.pc=38
 .rw[ay e];split
  .exact FB.b9 F.cs (.inr (by show(12:Int)<22;decide))
  .exact FB.b9 F.cs (.inr (by show(12:Int)<29;decide))
 rw[au e];exact F
theorem YX(F:FB c r.k)(e:(0<=t/\t<c.threads)/\0<=r.k.seq/\r.k.seq<=1048575)(f:0<=r.k.word)(a:0<=r.k.i/\(8<=r.k.pc/\r.k.pc<=10->r.k.i<c.threads))(b:r.k.pc≠0->bt r.k.aQ=true):FB c (fJ c t r).k:=by
 unfold fJ;split
 .exact F
 split
 .exact Ug F
 split
 .exact Qb F aa aa
 split
 .exact Qc F aa aa ⟨a.1,a.2 aa⟩ f
 split
 .exact LV F e (b aa) aa aa
 split
 .exact Qd F aa aa
 split
 .exact G0 F aa aa
 split
 .exact YW F aa aa
 split
 .exact LW F aa aa
 split
 .exact Uh
 .exact Ui F
end
end Mo
namespace Mo
section
variable(c:dG)(t:Int)(r:Rn)
theorem Cp(L:List Int)(a x:Int):(setAt L a x).length=L.length:=by unfold setAt;split<;>simp
theorem JQ:(Rn.again c r).L=r.L:=by unfold Rn.again;split<;>(try split)<;>rfl
theorem YY:(Rn.fail c r).L=r.L:=JQ c _
theorem Qe:(Rn.take c r).L=r.L:=by
 unfold Rn.take;dsimp only;split
 .exact JQ c _
 .split<;>rfl
theorem LX:(Rn.eY c r).L=r.L:=by unfold Rn.eY;split;exact Qe c r;rfl
theorem Uj:(Rn.owned c r).L=r.L:=by unfold Rn.owned;split;rfl;split<;>rfl
theorem LY:(Rn.gg c r).L=r.L:=by unfold Rn.gg;split<;>rfl
theorem G1:(Rn.ej c t r).L=r.L:=by unfold Rn.ej;split<;>rfl
theorem Uk:(Rn.enter c t r).L.length=r.L.length:=by unfold Rn.enter;exact uj
theorem Qf:(Rn.fY c t r).L.length=r.L.length:=by unfold Rn.fY;exact uj
theorem Qg:(Rn.fZ c r).L.length=r.L.length:=by unfold Rn.fZ;exact uj
theorem LZ:(Rn.gi c t r).L.length=r.L.length:=by unfold Rn.gi;exact uj
theorem Qh:(Rn.writes c t r).L.length=r.L.length:=by unfold Rn.writes;exact uj
theorem G2:(Rn.cZ c t r).L.length=r.L.length:=by unfold Rn.cZ;exact uj
theorem YZ:(Rn.ends c t r).L.length=r.L.length:=by unfold Rn.ends;exact uj
theorem L0:(Rn.dX c t r).L.length=r.L.length:=by unfold Rn.dX;exact uj
theorem Ul:(Rn.leave c t r).L.length=r.L.length:=by unfold Rn.leave;exact uj
theorem Um:(Rn.waits c t r).L.length=r.L.length:=by
 unfold Rn.waits;dsimp only;by_cases e:r.k.pc=29
 .rw[ay e];split<;>rfl
 rw[au e];by_cases e:r.k.pc=30
 .rw[ay e]
 rw[au e];by_cases e:r.k.pc=31
 .rw[ay e];exact Cp _ _ _
 rw[au e];by_cases e:r.k.pc=32
 .rw[ay e]
 rw[au e];by_cases e:r.k.pc=33
 .rw[ay e];exact Cp _ _ _
 rw[au e];by_cases e:r.k.pc=34
 .rw[ay e]
 rw[au e];by_cases e:r.k.pc=35
 .rw[ay e];rfl
 rw[au e];by_cases e:r.k.pc=36
 .rw[ay e]
 rw[au e];by_cases e:r.k.pc=37
 .rw[ay e];exact Cp _ _ _
 rw[au e];by_cases e:r.k.pc=38
 .rw[ay e];split<;>exact Cp _ _ _
 rw[au e]
theorem Y0:(fJ c t r).L.length=r.L.length:=by unfold fJ;split;rfl;split;exact Uk c t r;split;exact Qf c t r;split;exact Qg c r;split;exact LZ c t r;split;exact Qh c t r;split;exact G2 c t r;split;exact YZ c t r;split;exact L0 c t r;split;exact Ul c t r;exact Um c t r
end
structure TB (c:dG) (n:Int) (k:Tk):Prop where
 a:Tm c n k
 f:wS c n k
 b:FB c k
structure MB (n:Int) (a b d:Nat) (x:Mc):Prop where
 ee:aV x.c=true
 T:(x.T.length:Int)=x.c.threads
 P:(x.P.length:Int)=x.c.threads
 S:(x.S.length:Int)=x.c.threads
 M:(x.M.length:Int)=x.c.threads
 L:(x.L.length:Int)=bG x.c
 tb:∀k∈x.T,TB x.c n k
 w:fV x.L
 g:Gd x.c n x.L
 pm:∀p∈x.P,p.outs.length<=8
 time:0<=x.time/\x.time<=a
 N:x.N.length<=b
 V:x.V.length<=d
 sb:∀s∈x.S,0<=s/\s<=d
 mb:∀s∈x.M,0<=s/\s<=d
theorem lD{P:α->Prop}(h:∀x∈l,P x)(t:Nat)(b:P y):∀x∈l.set t y,P x:=λx a=>(List.mem_or_eq_of_mem_set a).elim (h x) λe=>e▸b
theorem uk{P:α->Prop}(h:∀x∈l,P x)(t:Nat)(a:P y):P (l.getD t y):=by
 rw[ew];by_cases e:t<l.length
 .rw[cq e];exact h _ (List.getElem_mem e)
 .rw[List.getElem?_eq_none aa];exact a
theorem TB.mono{m:Int}(h:TB c n k)(e:n<=m):TB c m k:=⟨h.a.mono e,h.f.mono e,h.b⟩
section
variable{a b:Nat}
theorem MB.mono(h:MB n a b d x){n':Int}{a' d':Nat}(e:n<=n')(C:a<=a')(D:b<=b')(E:d<=d'):MB n' a' b' d' x :={h with tb:=λk f=>(h.tb k f).mono e,g:=⟨Int.le_trans h.g.1 e,h.g.2⟩,time:=⟨h.time.1,by have:=h.time.2;omega⟩,N:=by have:=h.N;omega,V:=by have:=h.V;omega,sb:=λs c=>by have:=h.sb s c;omega,mb:=λs c=>by have:=h.mb s c;omega}
theorem MB.at_(h:MB n a b d x)(e:t<x.T.length):TB x.c n (cC x t):=h.tb _ (cH (DA e))
theorem MB.rb(h:MB n a b d x)(e:t<x.T.length):RB x.c n ⟨cC x t,x.L,0,false,[]⟩:=⟨(h.at_ e).a,(h.at_ e).f,h.w,h.g⟩
theorem MB.Qi(h:MB n a b d x)(t:Nat):(iW x t).outs.length<=8:=uk h.pm t af
theorem MB.tick(h:MB n a b d x):MB n (a+1) b d {x with time:=x.time+1}:={h with time:=⟨by have:=h.time.1;dsimp only;omega,by have:=h.time.2;dsimp only;omega⟩}
theorem Ej(h:MB n a b d x)(m:1<=n)(p:t<x.T.length)(q:Rq):MB n a (b+1) d (eu x t q).1:=by
 have k:=h.at_ p;have u:=size_pos h.ee;unfold eu;dsimp only;split
 .exact h.mono (ek _) (aR _) (bM _) (aR _)
 case isFalse g =>
  have c:(fQ x.c (cC x t) q).2=0:=Decidable.not_not.1 g;unfold fQ at c ⊢;by_cases i:(cC x t).pc≠0
  .rw[ay i]at c;cases c
  .rw[au i]at c ⊢;by_cases f:bt q=false
   .rw[ay f]at c;cases c
   .rw[au f]at c ⊢;by_cases j:x.c.bw<=(cC x t).seq
    .rw[ay j]at c;cases c
    .rw[au j];have s:=k.a.seq;have o:bt q=true:=by cases e:bt q with|true=>rfl|false=>exact absurd e f
     have l:TB x.c n {jc 1 ((cC x t).seq+1) q (cC x t).aJ cE false with round:=1}:=⟨⟨⟨by show 0<=(cC x t).seq+1;omega,by show(cC x t).seq+1<=_;omega⟩,⟨by show(0:Int)<=1;decide,m⟩,⟨ek _,by show(0:Int)<=n;omega⟩,⟨ek _,by show(0:Int)<=n;omega⟩,⟨ek _,by show(0:Int)<=n;omega⟩,⟨ek _,by show(0:Int)<=n;omega⟩,uQ,fV.nil,by show(0:Int)<=_;omega,fV.nil,by show(0:Int)<=_;omega,(show uP 0 from ey af af),fV.nil,aZ _,by show(0:Int)<=n;omega,fV.nil,by show(0:Int)<=n;omega,rfl,k.a.aJ⟩,⟨by unfold nh;dsimp only[jc];simp,λ_=>o⟩,FB.b9 (by intro x r;cases r) (.inl (by show(1:Int)<8;decide))⟩
     exact{h with T:=by rw[dN];exact h.T,S:=by rw[dN];exact h.S,tb:=lD h.tb t l,N:=by have:=h.N;simp;omega,sb:=lD h.sb t ⟨ek _,aa⟩}
theorem Un(h:MB n a b d x)(e:1<=n)(f:t<x.T.length)(q:Rq):MB n (a+1) (b+2) d (mV x t q).1:=by
 unfold mV;split
 .exact Ek
 .dsimp only;split
  .exact{h.tick with N:=by have:=h.N;simp;omega}
  .exact(Ej h.tick e f q).mono (ek _) aa aa aa
theorem El{e:Int}{outs:List Int}{p:Pm}(h:mj e outs=some p):p.outs.length<=8:=by
 unfold mj at h;split at h
 .rename_i a;injection h with h
  subst h;exact a.2.2.1
 .cases h
theorem yG(p:Pm)(r:Rs):(jU p r).outs=p.outs:=by
 unfold jU;repeat' split
 all_goals rfl
theorem Uo(h:MB n a b d x)(e:Int)(outs:List Int):MB n (a+1) b d (ma x t e outs).1:=by
 unfold ma;split
 .exact Ek
 .rename_i p c;split
  .exact Ek
  .exact{h.tick with P:=by rw[dN];exact h.P,pm:=lD h.pm t (El c)}
theorem Cq(h:MB n a b d x)(e:1<=n)(f:t<x.T.length):MB n a (b+1) d (gj x t):=by
 unfold gj;split
 .exact Ek
 .split
  .exact Ek
  .split
   .exact{h.mono (ek _) (aR _) (bM b) (aR _)with P:=by rw[dN];exact h.P,pm:=lD h.pm t (by rw[yG];exact h.Qi t)}
   .exact Ej h e f _
theorem qY:(gj x t).T.length=x.T.length/\(gj x t).c=x.c:=by
 unfold gj;split
 .exact⟨rfl,rfl⟩
 .split
  .exact⟨rfl,rfl⟩
  .split
   .exact⟨rfl,rfl⟩
   .exact KM
theorem Up(h:aV c=true):c.bw<=1048575:=by unfold aV iN at h;simp at h;omega
theorem G3(h:MB n a b d x)(g:0<=n)(f:n<=100000000)(e:t<x.T.length):TB x.c (n+1) (fJ x.c t ⟨cC x t,x.L,0,false,[]⟩).k/\fV (fJ x.c t ⟨cC x t,x.L,0,false,[]⟩).L/\Gd x.c (n+1) (fJ x.c t ⟨cC x t,x.L,0,false,[]⟩).L:=by
 have C:CB x.c t:=⟨h.ee,aa,by have:=h.T;omega⟩
 have c:=X1 C (h.rb e) g f;exact⟨⟨c.k,c.f,YX (h.at_ e).b ⟨⟨aa,by have:=h.T;omega⟩,(h.at_ e).a.seq.1,Int.le_trans (h.at_ e).a.seq.2 (Up h.ee)⟩ (h.at_ e).a.word.1 ⟨(h.at_ e).a.i.1,λu=>(h.at_ e).f.a.2.2.1 (.inl ⟨u.1,Int.le_trans u.2 (by decide)⟩)⟩ (h.at_ e).f.aQ⟩,c.L,c.g⟩
theorem Uq(h:MB n a b d x)(E:1<=n)(A:n<=100000000)(w:t<x.T.length):MB (n+1) (a+1) (b+2) (d+1) (pP x t):=by
 have c:=Cq h.tick E w;have v:(gj {x with time:=x.time+1} t).T.length=x.T.length:=qY.1;have u:(gj {x with time:=x.time+1} t).c=x.c:=qY.2;unfold pP;dsimp only;generalize gj {x with time:=x.time+1} t=y at u c v ⊢;rw[<-u];have B:t<y.T.length:=by rw[v];exact w
 have f:=c.mono (n':=n+1) (a':=a+1) (b':=b+2) (d':=d+1) aa aa aa aa;split
 .exact f
 .obtain⟨k,l,m⟩:=G3 c aa A B;have o:=Y0 y.c t ⟨cC y t,y.L,0,false,[]⟩;generalize fJ y.c t ⟨cC y t,y.L,0,false,[]⟩=r at k l m o ⊢;have g:∀z:Mc,z.c=y.c->z.T=y.T.set t r.k->z.L=r.L->z.P.length=y.P.length->(∀p∈z.P,p.outs.length<=8)->z.time=y.time->z.N.length<=y.N.length+1->z.V.length<=y.V.length+1->z.S.length=y.S.length->z.M.length=y.M.length->(∀s∈z.S,0<=s/\s<=(d+1:Nat))->(∀s∈z.M,0<=s/\s<=(d+1:Nat))->MB (n+1) (a+1) (b+2) (d+1) z:=by
   intro z e zT q K N Q W X L J O M;exact⟨by rw[e];exact c.ee,by rw[e,zT,dN];exact c.T,by rw[e,K];exact c.P,by rw[e,L];exact c.S,by rw[e,J];exact c.M,by rw[e,q,o];exact c.L,by rw[e,zT];exact lD f.tb t k,by rw[q];exact l,by rw[q,e];exact m,N,by rw[Q];exact c.time,by have:=c.N;omega,by have:=c.V;omega,O,M⟩
  have j:0<=y.S.getD t 0/\y.S.getD t 0<=d:=uk (P:=λs:Int=>0<=s/\s<=d) c.sb t ⟨ek _,aa⟩;have C:0<=y.M.getD t 0/\y.M.getD t 0<=d:=uk (P:=λs:Int=>0<=s/\s<=d) c.mb t ⟨ek _,aa⟩;have V:∀s∈y.S.set t (y.S.getD t 0+1),0<=s/\s<=((d+1:Nat):Int):=lD f.sb t ⟨aa,aa⟩;have U:∀s∈y.M.set t (max (y.M.getD t 0) (y.S.getD t 0+1)),0<=s/\s<=((d+1:Nat):Int):=lD f.mb t ⟨aa,aa⟩;have D:∀p∈y.P,p.outs.length<=8:=c.pm;have i:∀p∈y.P.set t (jU (iW y t) r.k.res),p.outs.length<=8:=lD D t (by rw[yG];exact c.Qi t);clear k l m o j C;have S:=f.sb;have T:=f.mb;have R:∀z:Mc,z.P=y.P->iW z t=iW y t:=λz H=>by unfold iW;rw[H]
  by_cases G:(cC y t).waits=true<;>by_cases F:r.pj=true<;>by_cases I:r.note≠0;all_goals
   simp only[ay,au,G,F,I,ite_true,ite_false,ne_eq,not_true_eq_false,not_false_eq_true,Bool.false_eq_true];split
  all_goals
   first
    |(refine g _ rfl rfl rfl ?_ ?_ rfl ?_ ?_ ?_ ?_ ?_ ?_<;>first|assumption|(simp;done)|exact aR _|exact bM _|rfl)
    |(refine g _ rfl rfl rfl ?_ ?_ rfl ?_ ?_ ?_ ?_ ?_ ?_<;>first|assumption|(simp;done)|exact aR _|exact bM _|rfl|exact i)
theorem abl(h:MB n a b d x)(f:1<=n)(g:n<=100000000)(e:Ev):MB (n+1) (a+1) (b+2) (d+1) (Dh x e).1:=by
 unfold Dh;split
 .exact h.mono aa aa aa aa
 .have c:e.th.toNat<x.T.length:=aa;split
  .exact Uq h f g c
  split
  .exact(Un h f c _).mono aa aa aa aa
  split
  .exact(Uo h _ _).mono aa aa aa aa
  .exact h.mono aa aa aa aa
end
theorem abm:∀(l L:List Int) (a:Int),(kQ L a l).length=L.length
 |[],_,_=>rfl
 |w::l,L,a=>(abm l (setAt L a w) (a+1)).trans (Cp L a w)
theorem Em:∀(l L:List Int) (a:Int),fV l->fV L->fV (kQ L a l)
 |[],_,_,_,h=>h
 |w::l,L,a,h1,h=>Em l (setAt L a w) (a+1) (λx b=>h1 x (List.mem_cons_of_mem _ b)) (h.bp a (h1 w List.mem_cons_self))
theorem Gd.kQ{c:dG}{n:Int}:∀(l L:List Int) (a:Int),1<a->Gd c n L->Gd c n (kQ L a l)
 |[],_,_,_,h=>h
 |_::l,_,a,ha,h=>Gd.kQ l _ (a+1) (by omega) (BR h ha)
theorem yH(h:aV c=true):1<=bX c:=by have a:=aO h;unfold bX;rw[au (by rw[h];decide)];have:=lI (show 0<=c.threads by omega) (show 0<=c.nodes by omega);omega
theorem L2(b:aV c=true)(e:c.kind=3):fV (nW c):=by unfold nW;rw[au (by rw[b];decide)];exact xg (pn b e)
theorem Qj(h:aV c=true)(g:c.kind=3):MB 64 0 0 0 (mU c):=by
 have n:=aO h;have m:=size_pos h;have C:12<=bV c 0:=by unfold bV;omega
 have r:(qu c).length=(bG c).toNat:=by unfold qu;rw[abm,Cp,Cp,jI]
 have G:0<=bG c:=by unfold bG bX bV;rw[au (by rw[h];decide),au (by rw[h];decide)];have:=lI (show 0<=1+c.threads*c.nodes by have:=lI (show 0<=c.threads by omega) (show 0<=c.nodes by omega);omega) (show 0<=1+bA c by omega);omega
 have t:∀k∈(mU c).T,TB c 64 k:=by
  intro k g;obtain⟨i,v,rfl⟩:=List.mem_map.1 g;have y:=List.mem_range.1 v;have b:(0:Int)<=64:=af;refine⟨⟨⟨ek _,by show(0:Int)<=_;omega⟩,⟨ek _,b⟩,⟨ek _,b⟩,⟨ek _,b⟩,⟨ek _,b⟩,⟨ek _,b⟩,uQ,fV.nil,by show(0:Int)<=_;omega,fV.nil,by show(0:Int)<=_;omega,(show uP 0 from ey af af),fV.nil,aZ _,b,fV.nil,b,rfl,?_⟩,⟨by unfold nh xD;dsimp only[jc];simp,λe=>absurd rfl e⟩,FB.b9 (by intro x B;cases B) (.inl (by show(0:Int)<8;decide))⟩;have D:0<=(i:Int)*c.nodes:=lI aa aa;have E:(i:Int)*c.nodes<=63*64:=Int.mul_le_mul aa aa aa aa;have q:=Int.mul_le_mul_of_nonneg_right (show(i:Int)+1<=c.threads by omega) (show 0<=c.nodes by omega);rw[Int.add_mul]at q;have F:bX c=1+c.threads*c.nodes:=by unfold bX;rw[au (by rw[h];decide)]
  refine⟨uQ,λ_=>rfl,λs f=>?_,λo A=>(by cases A),ek _,?_⟩
  .obtain⟨j,z,rfl⟩:=List.mem_map.1 f;have:=List.mem_range.1 z;unfold vP;dsimp only;omega
  .show(((List.range (min (max c.nodes 0) 64).toNat).map _).length:Int)+([]:List Od).length+0<=64;rw[fP,List.length_range];simp;omega
 refine⟨h,?_,?_,?_,?_,?_,t,?_,?_,?_,⟨ek _,ek _⟩,aR _,aR _,?_,?_⟩
 .show(((List.range c.threads.toNat).map _).length:Int)=c.threads;rw[fP,List.length_range];omega
 .show((List.replicate c.threads.toNat xE).length:Int)=c.threads;rw[jI];omega
 .show((List.replicate c.threads.toNat (0:Int)).length:Int)=c.threads;rw[jI];omega
 .show((List.replicate c.threads.toNat (0:Int)).length:Int)=c.threads;rw[jI];omega
 .show((qu c).length:Int)=_;rw[r];show((bG c).toNat:Int)=bG c;omega
 .exact Em _ _ _ (L2 h g) (((fV.zeros _).bp _ (tL _)).bp _ (ey af af))
 .have m:∀j:Int,aG (List.replicate (bG c).toNat (0:Int)) j=0:=λj=>by
   unfold aG
   split
   .rfl
   .rcases ou (l:=List.replicate (bG c).toNat (0:Int)) (i:=j.toNat) (d:=(0:Int))with e|e
    .rw[(List.mem_replicate.1 e).2]
    .rw[e]
  have u:Gd c 64 (setAt (List.replicate (bG c).toNat (0:Int)) 0 (cm ⟨0,1⟩)):=Gd.root ⟨by rw[m];decide,.inl (by rw[m];rfl)⟩ ⟨by decide,by decide,by decide,by decide,.inl rfl⟩
  exact Gd.kQ (nW c) _ (bV c 0+1) (by omega) (BR (a:=bV c 0) (w:=1) u (by omega))
 .intro p n;rw[(List.mem_replicate.1 n).2];decide
 .intro s f;rw[(List.mem_replicate.1 f).2];decide
 .intro s f;rw[(List.mem_replicate.1 f).2];decide
end Mo
namespace Mo
section
variable(c:dG)(t:Int)(r:Rn)
def Nn(r a:Rn):Prop:=a.note=r.note\/a.note=2\/a.note=3
def Sk(r a:Rn):Prop:=a.k.aQ=r.k.aQ/\(a.ops=r.ops\/a.ops=r.k.found)/\Nn r a
def Sj(r a:Rn):Prop:=a.k.aQ=r.k.aQ/\a.ops=r.ops/\Nn r a
theorem S2{r a:Rn}(h:Sj r a):Sk r a:=⟨h.1,.inl h.2.1,h.2.2⟩
theorem Sj.refl:Sj r r:=⟨rfl,rfl,.inl rfl⟩
theorem Sk.refl:Sk r r:=S2 (Sj.refl r)
theorem Y2:Sj r (Rn.fail c r):=by unfold Rn.fail Rn.again;split<;>(try split)<;>exact⟨rfl,rfl,.inl rfl⟩
theorem Qk:Sj r (Rn.take c r):=by
 unfold Rn.take Rn.again;dsimp only;repeat' split
 all_goals exact⟨rfl,rfl,.inl rfl⟩
theorem L3:Sj r (Rn.eY c r):=by unfold Rn.eY;split;exact Qk c r;exact⟨rfl,rfl,.inl rfl⟩
theorem Ur:Sj r (Rn.owned c r):=by unfold Rn.owned;split;exact⟨rfl,rfl,.inr (.inr rfl)⟩;split<;>exact⟨rfl,rfl,.inl rfl⟩
theorem L4:Sj r (Rn.gg c r):=by unfold Rn.gg;split<;>exact⟨rfl,rfl,.inl rfl⟩
theorem G7:Sj r (Rn.ej c t r):=by unfold Rn.ej;split<;>exact⟨rfl,rfl,.inl rfl⟩
theorem Cr{P:Prop}(h:P:=by
 (try dsimp only);repeat' split
 all_goals first|exact Sk.refl _|exact⟨rfl,.inl rfl,.inl rfl⟩|exact⟨rfl,.inr rfl,.inl rfl⟩|exact⟨rfl,.inl rfl,.inr (.inl rfl)⟩|exact⟨rfl,.inl rfl,.inr (.inr rfl)⟩|exact S2 (Y2 _ _)|exact S2 (Qk _ _)|exact S2 (L3 _ _)|exact S2 (Ur _ _)|exact S2 (L4 _ _)|exact S2 (G7 _ _ _)):P:=h
theorem Us:Sk r (Rn.enter c t r):=by unfold Rn.enter;exact Cr
theorem Ql:Sk r (Rn.fY c t r):=by unfold Rn.fY;exact Cr
theorem Qm:Sk r (Rn.fZ c r):=by unfold Rn.fZ;exact Cr
theorem L5:Sk r (Rn.gi c t r):=by unfold Rn.gi;exact Cr
theorem Qn:Sk r (Rn.writes c t r):=by unfold Rn.writes;exact Cr
theorem G8:Sk r (Rn.cZ c t r):=by unfold Rn.cZ;exact Cr
theorem Y3:Sk r (Rn.ends c t r):=by unfold Rn.ends;exact Cr
theorem L6:Sk r (Rn.dX c t r):=by unfold Rn.dX;exact Cr
theorem Ut:Sk r (Rn.leave c t r):=by unfold Rn.leave;exact Cr
theorem Uu:Sk r (Rn.waits c t r):=by
 unfold Rn.waits;dsimp only;by_cases e:r.k.pc=29
 .rw[ay e];exact Cr
 rw[au e];by_cases e:r.k.pc=30
 .rw[ay e];exact Cr
 rw[au e];by_cases e:r.k.pc=31
 .rw[ay e];exact Cr
 rw[au e];by_cases e:r.k.pc=32
 .rw[ay e];exact Cr
 rw[au e];by_cases e:r.k.pc=33
 .rw[ay e];exact Cr
 rw[au e];by_cases e:r.k.pc=34
 .rw[ay e];exact Cr
 rw[au e];by_cases e:r.k.pc=35
 .rw[ay e];exact Cr
 rw[au e];by_cases e:r.k.pc=36
 .rw[ay e];exact Cr
 rw[au e];by_cases e:r.k.pc=37
 .rw[ay e];exact Cr
 rw[au e];by_cases e:r.k.pc=38
 .rw[ay e];exact Cr
 rw[au e];exact Sk.refl _
theorem Ha:Sk r (fJ c t r):=by unfold fJ;split;exact Sk.refl _;split;exact Us c t r;split;exact Ql c t r;split;exact Qm c r;split;exact L5 c t r;split;exact Qn c t r;split;exact G8 c t r;split;exact Y3 c t r;split;exact L6 c t r;split;exact Ut c t r;exact Uu c t r
theorem L8{x:Tk}{L:List Int}:(fJ c t ⟨x,L,0,false,[]⟩).note≠1:=λe=>by
 have h:=(Ha c t ⟨x,L,0,false,[]⟩).2.2
 unfold Nn at h
 rw[e]at h
 rcases h with h|h|h<;>cases h
end
structure MC (b:Nat) (x:Mc):Prop where
 T:∀k∈x.T,k.aQ.cases.length<=3
 N:∀y∈x.N,y.aQ.cases.length<=3
 V:∀y∈x.V,y.ops.length<=b/\∀o∈y.ops,LU x.c o
section
variable{b:Nat}
theorem yI{P:α->Prop}(h:∀x∈l,P x)(f:P y):∀x∈l++[y],P x:=λx a=>(List.mem_append.1 a).elim (h x) λe=>by rw[List.mem_singleton.1 e];exact f
theorem MC.mono(h:MC b x)(e:b<=b'):MC b' x:=⟨h.T,h.N,λy a=>⟨bm (h.V y a).1 e,(h.V y a).2⟩⟩
theorem MC.at_(h:MC b x)(t:Nat):(cC x t).aQ.cases.length<=3:=uk h.T t af
theorem En(h:MC b x)(t:Nat)(q:Rq):MC b (eu x t q).1:=by
 unfold eu;dsimp only;split
 .exact h
 case isFalse i =>
  have a:(fQ x.c (cC x t) q).2=0:=Decidable.not_not.1 i;unfold fQ at a ⊢;by_cases d:(cC x t).pc≠0
  .rw[ay d]at a;cases a
  .rw[au d]at a ⊢;by_cases c:bt q=false
   .rw[ay c]at a;cases a
   .rw[au c]at a ⊢;by_cases f:x.c.bw<=(cC x t).seq
    .rw[ay f]at a;cases a
    .rw[au f];have g:q.cases.length<=3:=iC (by cases e:bt q with|true=>rfl|false=>exact absurd e c);exact⟨lD h.T t g,yI h.N g,h.V⟩
theorem Uv(h:MC b x)(t:Nat)(q:Rq):MC b (mV x t q).1:=by
 unfold mV;split
 .exact h
 .rename_i a;have c:q.cases.length<=3:=iC (by cases e:bt q with|true=>rfl|false=>exact absurd (.inr (.inr e)) a);dsimp only;split
  .exact⟨h.T,λy d=>(List.mem_append.1 d).elim (h.N y) λe=>by simp at e;rcases e with rfl|rfl<;>exact c,h.V⟩
  .exact En (x:={x with time:=x.time+1}) ⟨h.T,h.N,h.V⟩ t q
theorem Uw(h:MC b x)(t:Nat)(a:Int)(outs:List Int):MC b (ma x t a outs).1:=by
 unfold ma;split
 .exact h
 .split
  .exact h
  .exact⟨h.T,h.N,h.V⟩
theorem JR(h:MC b x)(t:Nat):MC b (gj x t):=by
 unfold gj;split
 .exact h
 .split
  .exact h
  .split
   .exact⟨h.T,h.N,h.V⟩
   .exact En h t _
theorem Ux{a:Nat}(h:MC b x)(B:MB n a u d x)(C:1<=n)(H:n<=b)(p:t<x.T.length):MC b (pP x t):=by
 have c:=JR (x:={x with time:=x.time+1}) ⟨h.T,h.N,h.V⟩ t;have g:=Cq B.tick C p;have l:(gj {x with time:=x.time+1} t).T.length=x.T.length:=qY.1;unfold pP;dsimp only;generalize gj {x with time:=x.time+1} t=y at c g l ⊢;split
 .exact c
 .have j:t<y.T.length:=by rw[l];exact p
  have i:=Ha x.c t ⟨cC y t,y.L,0,false,[]⟩;have z:=(g.at_ j).b.cs;have A:=(g.at_ j).a.found;generalize fJ x.c t ⟨cC y t,y.L,0,false,[]⟩=r at i ⊢;have m:r.k.aQ.cases.length<=3:=by rw[i.1];exact c.at_ t
  have D:r.ops.length<=b/\∀o∈r.ops,LU y.c o:=by
   rcases i.2.1 with e|e
   .rw[e];exact⟨aZ _,λo h=>by cases h⟩
   .rw[e];exact⟨by show(cC y t).found.length<=b;omega,z⟩
  have s:∀k∈y.T.set t r.k,k.aQ.cases.length<=3:=lD c.T t m;have q:∀f:Int,∀w∈y.N++[(⟨r.note,t,r.k.seq,f,r.k.aQ,r.k.res⟩:Nt)],w.aQ.cases.length<=3:=λf=>yI c.N m;have v:∀f:Int,∀w∈y.V++[(⟨f,t,r.ops⟩:Tn)],w.ops.length<=b/\∀o∈w.ops,LU y.c o:=λf=>yI c.V D;have I:=c.N;have J:=c.V;by_cases F:(cC y t).waits=true<;>by_cases E:r.pj=true<;>by_cases G:r.note≠0;all_goals
   simp only[ay,au,F,E,G,ite_true,ite_false,ne_eq,not_true_eq_false,not_false_eq_true,Bool.false_eq_true];split
  all_goals
   refine⟨s,?_,?_⟩<;>first|assumption|exact q _|exact v _
theorem abn{a:Nat}(h:MC b x)(B:MB n a u d x)(g:1<=n)(f:n<=b)(e:Ev):MC b (Dh x e).1:=by
 unfold Dh;split
 .exact h
 .have c:e.th.toNat<x.T.length:=aa;split
  .exact Ux h B g f c
  split
  .exact Uv h _ _
  split
  .exact Uw h _ _ _
  .exact h
theorem Y4:MC b (mU c):=by refine⟨λk a=>?_,λy h=>(by cases h),λy h=>(by cases h)⟩;obtain⟨i,d,rfl⟩:=List.mem_map.1 a;exact aZ _
end
end Mo
end Go.Proofs.YtpfbfhfcbdbglaaGreat
