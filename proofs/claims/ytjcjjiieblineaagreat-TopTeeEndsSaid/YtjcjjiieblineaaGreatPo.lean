/- Walks and plain facts. No condition. -/
import Derived.Test.YtjcjjiieblineaaGreatPe
import Derived.Test.YtjcjjiieblineaaGreatPn
namespace Go.Proofs.YtjcjjiieblineaaGreat
open Go.Proofs.Tryz Mo
set_option maxHeartbeats 8000000
set_option maxRecDepth 100000
set_option linter.all false
namespace Mo
structure FB (c:bA) (k:Tk):Prop where
 a:8<=k.pc/\k.pc<=10->(k.found.length:Int)<=k.i
 b:k.pc=11\/k.pc=12->(k.found.length:Int)<=c.threads
 cs:∀x∈k.found,x.aN.cases.length<=3
 w:k.pc=9\/k.pc=10->k.word<=1048575
section
variable{c:bA} {n t:Int} {r:Rn}
theorem FB.bO{k:Tk}(h:∀x∈k.found,x.aN.cases.length<=3)(a:k.pc<8\/12<k.pc):FB c k:=⟨fun _=>by omega,fun _=>by omega,h,fun _=>by omega⟩
theorem J4(h:∀x∈r.k.found,x.aN.cases.length<=3):FB c (Rn.again c r).k:=by
 unfold Rn.again;split
 ·exact FB.bO h (.inr (by show(12:Int)<16;decide))
 ·split
  ·exact FB.bO h (.inr (by show(12:Int)<19;decide))
  ·exact FB.bO h (.inl (by show(3:Int)<8;decide))
theorem Hn:FB c (Rn.fail c r).k:=J4 (by intro x a;cases a)
theorem QS(h:∀x∈r.k.found,x.aN.cases.length<=3):FB c (Rn.take c r).k:=by
 unfold Rn.take;dsimp only;split
 ·exact J4 h
 ·exact XU
theorem vw(h:∀x∈r.k.found,x.aN.cases.length<=3):FB c (Rn.cB c r).k:=by
 unfold Rn.cB;split
 ·exact QS h
 ·exact FB.bO h (.inr (by show(12:Int)<28;decide))
theorem J5(h:∀x∈r.k.found,x.aN.cases.length<=3):FB c (Rn.owned c r).k:=by
 unfold Rn.owned;split
 ·exact aah
 ·exact XU
theorem mQ{q:Rq}(h:bk q=true):q.cases.length<=3:=by unfold bk at h;simp only[cA,bP]at h;omega
theorem vx(h:∀x∈r.k.found,x.aN.cases.length<=3)(a:(r.k.found.length:Int)<=r.k.i+1):FB c (Rn.ee c r).k:=by
 unfold Rn.ee;split
 ·exact⟨fun h=>absurd h (by show ¬(8<=(11:Int)/\(11:Int)<=10);decide),fun _=>by show(r.k.found.length:Int)<=c.threads;omega,h,fun h=>absurd h (by show ¬((11:Int)=9\/(11:Int)=10);decide)⟩
 ·exact⟨fun _=>a,fun h=>absurd h (by show ¬((8:Int)=11\/(8:Int)=12);decide),h,fun h=>absurd h (by show ¬((8:Int)=9\/(8:Int)=10);decide)⟩
theorem yT(h:∀x∈r.k.found,x.aN.cases.length<=3)(b:(r.k.found.length:Int)<=c.threads)(d:bk r.k.aN=true):FB c (Rn.cU c t r).k:=by
 unfold Rn.cU;split
 ·exact⟨fun h=>absurd h (by show ¬(8<=(11:Int)/\(11:Int)<=10);decide),fun _=>b,h,fun h=>absurd h (by show ¬((11:Int)=9\/(11:Int)=10);decide)⟩
 ·refine FB.bO (fun x a=>?_) (.inr (by show(12:Int)<13;decide));rcases List.mem_append.1 a with a|a
  ·unfold il at a;exact h x (ou _ _ a)
  ·split at a
   ·cases a
   ·rw[List.mem_singleton]at a;rw[a];exact mQ d
theorem Es(l:List Int):(eC l).1.cases.length<=3:=by
 unfold eC;dsimp only;split
 ·rename_i h;simp only[cW,fF]at *;omega
 ·exact aV _
theorem Vf(F:FB c r.k):FB c (Rn.enter c t r).k:=by
 unfold Rn.enter;split
 ·exact FB.bO F.cs (.inl (by show(2:Int)<8;decide))
 split
 ·exact QS F.cs
 split
 ·exact FB.bO F.cs (.inl (by show(4:Int)<8;decide))
 split
 ·exact FB.bO F.cs (.inl (by show(5:Int)<8;decide))
 split
 ·split
  ·exact Hn
  ·exact FB.bO F.cs (.inl (by show(6:Int)<8;decide))
 ·exact F
theorem QT(F:FB c r.k)(b:6<=r.k.pc)(d:r.k.pc<=7):FB c (Rn.eZ c t r).k:=by
 unfold Rn.eZ;dsimp only;split
 ·split
  ·exact Hn
  ·exact FB.bO F.cs (.inl (by show(7:Int)<8;decide))
 ·split
  ·exact FB.bO F.cs (.inl (by show r.k.pc<8;omega))
  ·split
   ·exact FB.bO (by intro x a;cases a) (.inr (by show(12:Int)<20;decide))
   ·exact⟨fun _=>by show(0:Int)<=0;omega,fun h=>absurd h (by show ¬((8:Int)=11\/(8:Int)=12);decide),fun x a=>(by cases a),fun h=>absurd h (by show ¬((8:Int)=9\/(8:Int)=10);decide)⟩
theorem QU(F:FB c r.k)(e:8<=r.k.pc)(f:r.k.pc<=10):FB c (Rn.fc c r).k:=by
 have d:=F.a ⟨e,f⟩;unfold Rn.fc;dsimp only;split
 ·split
  ·exact vx F.cs (by show(r.k.found.length:Int)<=r.k.i+1;omega)
  ·rename_i b;exact⟨fun _=>d,fun h=>absurd h (by show ¬((9:Int)=11\/(9:Int)=12);decide),F.cs,fun _=>by show ay r.L (lJ c r.k.i)<=1048575;omega⟩
 split
 ·rename_i b;refine⟨fun _=>d,fun h=>absurd h ?_,F.cs,fun _=>F.w (.inl b)⟩;show ¬((if r.k.j+1=5 then(10:Int)else 9)=11\/(if r.k.j+1=5 then(10:Int)else 9)=12);split<;>decide
 split
 ·split
  ·refine vx (fun x a=>?_) ?_
   ·rcases List.mem_append.1 a with a|a
    ·exact F.cs x a
    ·rw[List.mem_singleton]at a;rw[a];exact Es _
   ·show((r.k.found++[_]).length:Int)<=r.k.i+1;rw[eW];simp only[List.length_cons,List.length_nil];omega
  ·exact vx F.cs aa
 ·exact F
theorem Mb(F:FB c r.k)(d:bk r.k.aN=true)(e:11<=r.k.pc)(f:r.k.pc<=12):FB c (Rn.eV c t r).k:=by
 have a:=F.b aa;have b:=F.cs;unfold Rn.eV;dsimp only;split
 ·split
  ·exact yT F.cs a d
  ·exact⟨fun h=>absurd h (by show ¬(8<=(12:Int)/\(12:Int)<=10);decide),fun _=>a,F.cs,fun h=>absurd h (by show ¬((12:Int)=9\/(12:Int)=10);decide)⟩
 ·split
  ·refine yT ?_ ?_ ?_<;>(dsimp only;assumption)
  ·exact⟨fun h=>absurd h (by show ¬(8<=(11:Int)/\(11:Int)<=10);decide),fun _=>a,F.cs,fun h=>absurd h (by show ¬((11:Int)=9\/(11:Int)=10);decide)⟩
theorem QV(F:FB c r.k)(_h1:13<=r.k.pc)(_h2:r.k.pc<=15):FB c (Rn.writes c t r).k:=by
 unfold Rn.writes;dsimp only;split
 ·exact FB.bO F.cs (.inr (by show(12:Int)<14;decide))
 split
 ·split
  ·exact FB.bO F.cs (.inr (by show(12:Int)<15;decide))
  ·exact aai
 split
 ·split
  ·exact Hn
  ·exact FB.bO F.cs (.inr (by show(12:Int)<20;decide))
 ·exact F
theorem Ho(F:FB c r.k)(_h1:16<=r.k.pc)(_h2:r.k.pc<=19):FB c (Rn.bT c t r).k:=by
 unfold Rn.bT;dsimp only;split
 ·exact FB.bO F.cs (.inr (by show(12:Int)<17;decide))
 split
 ·refine FB.bO F.cs (.inr ?_);show(12:Int)<(if r.k.j+1=5 then 18 else 17);split<;>decide
 split
 ·exact FB.bO F.cs (.inl (by show(3:Int)<8;decide))
 split
 ·exact FB.bO F.cs (.inr (by show(12:Int)<20;decide))
 ·exact F
theorem aaj(F:FB c r.k)(_h1:20<=r.k.pc)(_h2:r.k.pc<=23):FB c (Rn.ends c t r).k:=by
 have a:=F.cs;unfold Rn.ends;dsimp only;split
 ·refine FB.bO F.cs (.inr ?_);show(12:Int)<(if r.k.fR=true then 21 else 22);split<;>decide
 split
 ·exact FB.bO F.cs (.inr (by show(12:Int)<22;decide))
 split
 ·split
  ·exact J5 a
  ·exact FB.bO F.cs (.inr (by show(12:Int)<23;decide))
 split
 ·split
  ·exact J5 a
  ·exact FB.bO F.cs (.inr (by show(12:Int)<22;decide))
 ·exact F
theorem Md(F:FB c r.k)(_h1:24<=r.k.pc)(_h2:r.k.pc<=27):FB c (Rn.cV c t r).k:=by
 have a:=F.cs;unfold Rn.cV;dsimp only;split
 ·split
  ·exact vw a
  ·exact FB.bO F.cs (.inr (by show(12:Int)<25;decide))
 split
 ·split
  ·exact aai
  ·refine FB.bO F.cs (.inr ?_);show(12:Int)<(if _ then 26 else 27);split<;>decide
 split
 ·split<;>split<;>first|exact vw a|exact FB.bO F.cs (.inr (by show(12:Int)<27;decide))
 split
 ·split
  ·exact vw a
  ·exact aai
 ·exact F
theorem Vg:FB c (Rn.leave c t r).k:=by
 unfold Rn.leave;dsimp only;split
 ·exact aah
 ·exact FB.bO (by intro x a;cases a) (.inr (by show(12:Int)<29;decide))
theorem Vh(F:FB c r.k):FB c (Rn.waits c t r).k:=by
 have a:=F.cs;unfold Rn.waits;dsimp only;by_cases e:r.k.pc=29
 ·rw[au e];split
  ·exact aah
  ·exact FB.bO F.cs (.inr (by show(12:Int)<30;decide))
 rw[ah e];by_cases e:r.k.pc=30
 ·rw[au e];exact FB.bO F.cs (.inr (by show(12:Int)<31;decide))
 rw[ah e];by_cases e:r.k.pc=31
 ·rw[au e];exact FB.bO F.cs (.inr (by show(12:Int)<32;decide))
 rw[ah e];by_cases e:r.k.pc=32
 ·rw[au e];exact FB.bO F.cs (.inr (by show(12:Int)<33;decide))
 rw[ah e];by_cases e:r.k.pc=33
 ·rw[au e];exact FB.bO F.cs (.inr (by show(12:Int)<34;decide))
 rw[ah e];by_cases e:r.k.pc=34
 ·rw[au e];refine FB.bO F.cs (.inr ?_);dsimp only;split<;>decide
 rw[ah e];by_cases e:r.k.pc=35
 ·rw[au e];refine FB.bO F.cs (.inr ?_);dsimp only[Rn.pc];split<;>decide
 rw[ah e];by_cases e:r.k.pc=36
 ·rw[au e];exact FB.bO F.cs (.inr (by show(12:Int)<37;decide))
 rw[ah e];by_cases e:r.k.pc=37
 ·rw[au e];exact FB.bO F.cs (.inr (by show(12:Int)<38;decide))
 rw[ah e];by_cases e:r.k.pc=38
 ·rw[au e];split
  ·exact FB.bO F.cs (.inr (by show(12:Int)<22;decide))
  ·exact FB.bO F.cs (.inr (by show(12:Int)<29;decide))
 rw[ah e];exact F
theorem aak(F:FB c r.k)(a:r.k.pc≠0->bk r.k.aN=true):FB c (eD c t r).k:=by
 unfold eD;split
 ·exact F
 split
 ·exact Vf F
 split
 ·exact QT F aa aa
 split
 ·exact QU F aa aa
 split
 ·exact Mb F (a aa) aa aa
 split
 ·exact QV F aa aa
 split
 ·exact Ho F aa aa
 split
 ·exact aaj F aa aa
 split
 ·exact Md F aa aa
 split
 ·exact Vg
 ·exact Vh F
end
end Mo
end Go.Proofs.YtjcjjiieblineaaGreat
