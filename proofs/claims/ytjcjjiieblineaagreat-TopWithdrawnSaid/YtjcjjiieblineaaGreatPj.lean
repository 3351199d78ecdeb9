/- Walks and plain facts. No condition. -/
import Derived.Test.YtjcjjiieblineaaGreatPe
import Derived.Test.YtjcjjiieblineaaGreatPi
namespace Go.Proofs.YtjcjjiieblineaaGreat
open Go.Proofs.Tryz
set_option maxHeartbeats 8000000
set_option maxRecDepth 100000
set_option linter.all false
namespace Mo
structure FB (c:bH) (k:Tk):Prop where
 a:8<=k.pc/\k.pc<=10->(k.found.length:Int)<=k.i
 b:k.pc=11\/k.pc=12->(k.found.length:Int)<=c.threads
 cs:∀x∈k.found,x.aQ.cases.length<=3
 w:k.pc=9\/k.pc=10->k.word<=1048575
section
variable{c:bH} {n t:Int} {r:Rn}
theorem FB.far{k:Tk}(h:∀x∈k.found,x.aQ.cases.length<=3)(hp:k.pc<8\/12<k.pc):FB c k:=⟨fun _=>by omega,fun _=>by omega,h,fun _=>by omega⟩
theorem G1(h:∀x∈r.k.found,x.aQ.cases.length<=3):FB c (Rn.again c r).k:=by
 unfold Rn.again;split
 ·exact FB.far h (.inr (by show(12:Int)<16;decide))
 ·split
  ·exact FB.far h (.inr (by show(12:Int)<19;decide))
  ·exact FB.far h (.inl (by show(3:Int)<8;decide))
theorem EZ:FB c (Rn.fail c r).k:=G1 (by intro x hx;cases hx)
theorem NG(h:∀x∈r.k.found,x.aQ.cases.length<=3):FB c (Rn.take c r).k:=by
 unfold Rn.take;dsimp only;split
 ·exact G1 h
 ·exact Uy
theorem tE(h:∀x∈r.k.found,x.aQ.cases.length<=3):FB c (Rn.dy c r).k:=by
 unfold Rn.dy;split
 ·exact NG h
 ·exact FB.far h (.inr (by show(12:Int)<28;decide))
theorem G2(h:∀x∈r.k.found,x.aQ.cases.length<=3):FB c (Rn.owned c r).k:=by
 unfold Rn.owned;split
 ·exact Xa
 ·exact Uy
theorem lF{q:Rq}(h:bt q=true):q.cases.length<=3:=by unfold bt at h;simp only[dI,cU]at h;omega
theorem tF(h:∀x∈r.k.found,x.aQ.cases.length<=3)(hl:(r.k.found.length:Int)<=r.k.i+1):FB c (Rn.eC c r).k:=by
 unfold Rn.eC;split
 ·exact⟨fun h=>absurd h (by show ¬(8<=(11:Int)/\(11:Int)<=10);decide),fun _=>by show(r.k.found.length:Int)<=c.threads;omega,h,fun h=>absurd h (by show ¬((11:Int)=9\/(11:Int)=10);decide)⟩
 ·exact⟨fun _=>hl,fun h=>absurd h (by show ¬((8:Int)=11\/(8:Int)=12);decide),h,fun h=>absurd h (by show ¬((8:Int)=9\/(8:Int)=10);decide)⟩
theorem wU(h:∀x∈r.k.found,x.aQ.cases.length<=3)(hl:(r.k.found.length:Int)<=c.threads)(hq:bt r.k.aQ=true):FB c (Rn.cL c t r).k:=by
 unfold Rn.cL;split
 ·exact⟨fun h=>absurd h (by show ¬(8<=(11:Int)/\(11:Int)<=10);decide),fun _=>hl,h,fun h=>absurd h (by show ¬((11:Int)=9\/(11:Int)=10);decide)⟩
 ·refine FB.far (fun x hx=>?_) (.inr (by show(12:Int)<13;decide));rcases List.mem_append.1 hx with hx|hx
  ·unfold jq at hx;exact h x (nc _ _ hx)
  ·split at hx
   ·cases hx
   ·rw[List.mem_singleton]at hx;rw[hx];exact lF hq
theorem Cq(l:List Int):(iJ l).1.cases.length<=3:=by
 unfold iJ;dsimp only;split
 ·rename_i h;simp only[eK,eW]at *;omega
 ·exact aY _
theorem RT(F:FB c r.k):FB c (Rn.enter c t r).k:=by
 unfold Rn.enter;split
 ·exact FB.far F.cs (.inl (by show(2:Int)<8;decide))
 split
 ·exact NG F.cs
 split
 ·exact FB.far F.cs (.inl (by show(4:Int)<8;decide))
 split
 ·exact FB.far F.cs (.inl (by show(5:Int)<8;decide))
 split
 ·split
  ·exact EZ
  ·exact FB.far F.cs (.inl (by show(6:Int)<8;decide))
 ·exact F
theorem NH(F:FB c r.k)(h1:6<=r.k.pc)(h2:r.k.pc<=7):FB c (Rn.eD c t r).k:=by
 unfold Rn.eD;dsimp only;split
 ·split
  ·exact EZ
  ·exact FB.far F.cs (.inl (by show(7:Int)<8;decide))
 ·split
  ·exact FB.far F.cs (.inl (by show r.k.pc<8;omega))
  ·split
   ·exact FB.far (by intro x hx;cases hx) (.inr (by show(12:Int)<20;decide))
   ·exact⟨fun _=>by show(0:Int)<=0;omega,fun h=>absurd h (by show ¬((8:Int)=11\/(8:Int)=12);decide),fun x hx=>(by cases hx),fun h=>absurd h (by show ¬((8:Int)=9\/(8:Int)=10);decide)⟩
theorem NI(F:FB c r.k)(h1:8<=r.k.pc)(h2:r.k.pc<=10):FB c (Rn.eE c r).k:=by
 have hl:=F.a ⟨h1,h2⟩;unfold Rn.eE;dsimp only;split
 ·split
  ·exact tF F.cs (by show(r.k.found.length:Int)<=r.k.i+1;omega)
  ·rename_i h9;exact⟨fun _=>hl,fun h=>absurd h (by show ¬((9:Int)=11\/(9:Int)=12);decide),F.cs,fun _=>by show ax r.L (lN c r.k.i)<=1048575;omega⟩
 split
 ·rename_i h9;refine⟨fun _=>hl,fun h=>absurd h ?_,F.cs,fun _=>F.w (.inl h9)⟩;show ¬((if r.k.j+1=5 then(10:Int)else 9)=11\/(if r.k.j+1=5 then(10:Int)else 9)=12);split<;>decide
 split
 ·split
  ·refine tF (fun x hx=>?_) ?_
   ·rcases List.mem_append.1 hx with hx|hx
    ·exact F.cs x hx
    ·rw[List.mem_singleton]at hx;rw[hx];exact Cq _
   ·show((r.k.found++[_]).length:Int)<=r.k.i+1;rw[eN];simp only[List.length_cons,List.length_nil];omega
  ·exact tF F.cs ae
 ·exact F
theorem Jy(F:FB c r.k)(hq:bt r.k.aQ=true)(h1:11<=r.k.pc)(h2:r.k.pc<=12):FB c (Rn.eF c t r).k:=by
 have hl:=F.b ae;have hcs:=F.cs;unfold Rn.eF;dsimp only;split
 ·split
  ·exact wU F.cs hl hq
  ·exact⟨fun h=>absurd h (by show ¬(8<=(12:Int)/\(12:Int)<=10);decide),fun _=>hl,F.cs,fun h=>absurd h (by show ¬((12:Int)=9\/(12:Int)=10);decide)⟩
 ·split
  ·refine wU ?_ ?_ ?_<;>(dsimp only;assumption)
  ·exact⟨fun h=>absurd h (by show ¬(8<=(11:Int)/\(11:Int)<=10);decide),fun _=>hl,F.cs,fun h=>absurd h (by show ¬((11:Int)=9\/(11:Int)=10);decide)⟩
theorem NJ(F:FB c r.k)(_h1:13<=r.k.pc)(_h2:r.k.pc<=15):FB c (Rn.writes c t r).k:=by
 unfold Rn.writes;dsimp only;split
 ·exact FB.far F.cs (.inr (by show(12:Int)<14;decide))
 split
 ·split
  ·exact FB.far F.cs (.inr (by show(12:Int)<15;decide))
  ·exact Xb
 split
 ·split
  ·exact EZ
  ·exact FB.far F.cs (.inr (by show(12:Int)<20;decide))
 ·exact F
theorem E2(F:FB c r.k)(_h1:16<=r.k.pc)(_h2:r.k.pc<=19):FB c (Rn.bT c t r).k:=by
 unfold Rn.bT;dsimp only;split
 ·exact FB.far F.cs (.inr (by show(12:Int)<17;decide))
 split
 ·refine FB.far F.cs (.inr ?_);show(12:Int)<(if r.k.j+1=5 then 18 else 17);split<;>decide
 split
 ·exact FB.far F.cs (.inl (by show(3:Int)<8;decide))
 split
 ·exact FB.far F.cs (.inr (by show(12:Int)<20;decide))
 ·exact F
theorem Xc(F:FB c r.k)(_h1:20<=r.k.pc)(_h2:r.k.pc<=23):FB c (Rn.ends c t r).k:=by
 have hcs:=F.cs;unfold Rn.ends;dsimp only;split
 ·refine FB.far F.cs (.inr ?_);show(12:Int)<(if r.k.gF=true then 21 else 22);split<;>decide
 split
 ·exact FB.far F.cs (.inr (by show(12:Int)<22;decide))
 split
 ·split
  ·exact G2 hcs
  ·exact FB.far F.cs (.inr (by show(12:Int)<23;decide))
 split
 ·split
  ·exact G2 hcs
  ·exact FB.far F.cs (.inr (by show(12:Int)<22;decide))
 ·exact F
theorem Jz(F:FB c r.k)(_h1:24<=r.k.pc)(_h2:r.k.pc<=27):FB c (Rn.cH c t r).k:=by
 have hcs:=F.cs;unfold Rn.cH;dsimp only;split
 ·split
  ·exact tE hcs
  ·exact FB.far F.cs (.inr (by show(12:Int)<25;decide))
 split
 ·split
  ·exact Xb
  ·refine FB.far F.cs (.inr ?_);show(12:Int)<(if _ then 26 else 27);split<;>decide
 split
 ·split<;>split<;>first|exact tE hcs|exact FB.far F.cs (.inr (by show(12:Int)<27;decide))
 split
 ·split
  ·exact tE hcs
  ·exact Xb
 ·exact F
theorem RU:FB c (Rn.leave c t r).k:=by
 unfold Rn.leave;dsimp only;split
 ·exact Xa
 ·exact FB.far (by intro x hx;cases hx) (.inr (by show(12:Int)<29;decide))
theorem RV(F:FB c r.k):FB c (Rn.waits c t r).k:=by
 have hcs:=F.cs;unfold Rn.waits;dsimp only;by_cases e:r.k.pc=29
 ·rw[au e];split
  ·exact Xa
  ·exact FB.far F.cs (.inr (by show(12:Int)<30;decide))
 rw[ai e];by_cases e:r.k.pc=30
 ·rw[au e];exact FB.far F.cs (.inr (by show(12:Int)<31;decide))
 rw[ai e];by_cases e:r.k.pc=31
 ·rw[au e];exact FB.far F.cs (.inr (by show(12:Int)<32;decide))
 rw[ai e];by_cases e:r.k.pc=32
 ·rw[au e];exact FB.far F.cs (.inr (by show(12:Int)<33;decide))
 rw[ai e];by_cases e:r.k.pc=33
 ·rw[au e];exact FB.far F.cs (.inr (by show(12:Int)<34;decide))
 rw[ai e];by_cases e:r.k.pc=34
 ·rw[au e];refine FB.far F.cs (.inr ?_);dsimp only;split<;>decide
 rw[ai e];by_cases e:r.k.pc=35
 ·rw[au e];refine FB.far F.cs (.inr ?_);dsimp only[Rn.pc];split<;>decide
 rw[ai e];by_cases e:r.k.pc=36
 ·rw[au e];exact FB.far F.cs (.inr (by show(12:Int)<37;decide))
 rw[ai e];by_cases e:r.k.pc=37
 ·rw[au e];exact FB.far F.cs (.inr (by show(12:Int)<38;decide))
 rw[ai e];by_cases e:r.k.pc=38
 ·rw[au e];split
  ·exact FB.far F.cs (.inr (by show(12:Int)<22;decide))
  ·exact FB.far F.cs (.inr (by show(12:Int)<29;decide))
 rw[ai e];exact F
theorem Xd(F:FB c r.k)(hq:r.k.pc≠0->bt r.k.aQ=true):FB c (dY c t r).k:=by
 unfold dY;split
 ·exact F
 split
 ·exact RT F
 split
 ·exact NH F ae ae
 split
 ·exact NI F ae ae
 split
 ·exact Jy F (hq ae) ae ae
 split
 ·exact NJ F ae ae
 split
 ·exact E2 F ae ae
 split
 ·exact Xc F ae ae
 split
 ·exact Jz F ae ae
 split
 ·exact RU
 ·exact RV F
end
end Mo
end Go.Proofs.YtjcjjiieblineaaGreat
