/- Walks and plain facts. No condition. -/
import Derived.Test.YtjcjjiieblineaaGreatPr
import Derived.Test.YtjcjjiieblineaaGreatPv
namespace Go.Proofs.YtjcjjiieblineaaGreat
open Go.ChangeShapes Go.WideShapes Go.Deep Go.Joins Go.RowKit Go.Proofs.Tryz
set_option maxHeartbeats 8000000
set_option maxRecDepth 100000
set_option linter.all false
variable {m fuel:Nat}{e:TypeId}{v:Value}{fs:Array Field}
section
variable{H:Type} {enc:TypeId×Value->H} {P:Program} {w:World} {base:Nat} {spare:Nat->Bool} {held:Bool}
theorem r7{t:TypeId}{cs:List Value}{x:DataW H×List MemPlace}(ht:P.underlying t=some (.slice e))(he:P.underlying e=some (.struct fs))(EF:oneCellFields P fs=true)(hC:P.cellsOf e=fs.size)(h:DataW.trod enc P w base spare held fuel t cs=some x) :
 (cs=[.slice none 0 0]/\x=(.nil,[])) \/
 ∃(a:Addr) (len cap m:Nat) (D:Nat->DataW H) (Pl:Nat->List MemPlace),cs=[.slice (some a) len cap]/\base<=a.block/\len<=cap/\cap<=maxLen/\m=(if spare a.block then cap else len) /\
  x=(.slice ((List.range len).map D) ((List.range (m-len)).map fun j=>D (len+j)),MemPlace.row a (m*fs.size)++(List.range m).flatMap Pl) /\
  ∀i,i<m->∃(ys:List (DataW H×List MemPlace)) (n:Nat),D i=.agg (ys.map (·.1))/\Pl i=ys.flatMap (·.2)/\ys.length=fs.size /\
   ∀(j:Nat) (f:Field),fs[j]?=some f->∃(v:Value) (y:DataW H×List MemPlace),w.cell? (a.add (i*fs.size+j))=some v/\ys[j]?=some y/\DataW.trod enc P w base spare held n f.type [v]=some y:=by
 rcases open_slice ht h with h0|⟨a,len,cap,m,n,D,Pl,hcs,hb,hl,hm,V5,hx,hi⟩
 ·exact .inl h0
 ·refine .inr ⟨a,len,cap,m,D,Pl,hcs,hb,hl,hm,V5,by rw[hC]at hx;exact hx,fun i Yx=>?_⟩;obtain⟨cs',hc,VV⟩:=hi i Yx;rw[hC]at hc;obtain⟨ys,n',Gu,hy,hlen,Wq,hf⟩:=DataW.trod_struct he VV;obtain⟨_,lO,hat⟩:=World.cells?_some hc;simp only[Prod.mk.injEq]at hy;refine⟨ys,n',hy.1,hy.2,Wq,fun j f hj=>?_⟩;obtain⟨ho,hk⟩:=hone_of EF j f hj;have vX:j<fs.size:=(Array.getElem?_eq_some_iff.1 hj).1;have hcell:=hat j vX;have hv:cs'[j]?=some (cs'[j]'ae):=cD ae;have h1:=hf j f hj;rw[ho,hk]at h1;have ack:(cs'.drop j).take 1=[cs'[j]'ae]:=by
   rw[List.drop_eq_getElem_cons ae];rfl
  rw[ack]at h1;have KW:ys[j]?=some (ys[j]'ae):=cD ae;refine⟨_,_,?_,KW,h1.trans KW⟩;rw[<-Go.Deep.add_add,hcell,hv]
theorem AE{t:TypeId}{k:IntKind}{cs:List Value}{x:DataW H×List MemPlace}(ht:P.underlying t=some (.slice e))(he:P.underlying e=some (.struct fs))(EF:oneCellFields P fs=true)(hC:P.cellsOf e=fs.size)(hint:∀(j:Nat) (f:Field),fs[j]?=some f->P.underlying f.type=some (.int k))(h:DataW.trod enc P w base (fun _=>true) held fuel t cs=some x) :
 cs=[.slice none 0 0]\/∃(a:Addr) (len cap:Nat) (F:Nat->Nat->Int),cs=[.slice (some a) len cap]/\len<=cap/\cap<=maxLen /\
  ∀i,i<len->∀j,j<fs.size->w.cell? (a.add (i*fs.size+j))=some (.int k (F i j)):=by
 rcases r7 ht he EF hC h with⟨h1,_⟩|⟨a,len,cap,m,D,Pl,h1,_,hl,hm,V5,_,hi⟩
 ·exact .inl h1
 ·have key:∀i j,∃z:Int,i<len->j<fs.size->w.cell? (a.add (i*fs.size+j))=some (.int k z):=by
   intro i j;by_cases vE:i<len/\j<fs.size
   ·obtain⟨ys,n,_,_,_,hf⟩:=hi i (by simp only[if_true]at V5;omega);obtain⟨v,y,hc,_,hy⟩:=hf j fs[j] (by simp[vE.2]);obtain⟨z,hz,_,_⟩:=DataW.trod_int (hint j fs[j] (by simp[vE.2])) hy;simp at hz;exact⟨z,fun _ _=>by rw[hc,hz]⟩
   ·exact⟨0,fun h1 h2=>absurd ⟨h1,h2⟩ vE⟩
  exact .inr ⟨a,len,cap,fun i j=>(key i j).choose,h1,hl,hm,fun i h1 j h2=>(key i j).choose_spec h1 h2⟩
theorem cN.Dk{α:Type}{w:World}{f:α->List Value}{ad:Addr}{cs:List α}(hf:∀c,(f c).length=m)(h:∀(i:Nat) (c:α),cs[i]?=some c->∀(r:Nat) (u:Value),(f c)[r]?=some u->w.cell? (ad.add (i*m+r))=some u):cN w f (some ad) cs:=by
 intro j u hu
 refine⟨ad,rfl,?_⟩
 have hlen:=mJ hf cs
 have hj:=(List.getElem?_eq_some_iff.1 hu).1
 rw[hlen]at hj
 rcases Nat.eq_zero_or_pos m with h0|h0
 ·subst h0;omega
 ·have h1:j/m<cs.length:=Nat.div_lt_of_lt_mul (by rwa [Nat.mul_comm]at hj);have h2:j%m<m:=Nat.mod_lt _ h0;have h3:j/m*m+j%m=j:=Nat.div_add_mod' j m;have hc:=cD h1;have hg:=qX hf cs (j/m) _ (j%m) hc h2;rw[h3,hu]at hg;have:=h (j/m) _ hc (j%m) u hg.symm;rwa [h3]at this
end
def Yy:qN Mo.Ev:=fun w S r e=>∃z o:Sl,r=FR e z o/\dv w S bk z.A e.aQ.cases/\cA w S .i64 o.A e.outs/\e.outs.length<=o.c/\e.aQ.cases.length<=9223372036854775807/\e.outs.length<=9223372036854775807
theorem F8:Good Yy:=⟨fun h ⟨z,o,h1,h2,h3,h4⟩=>⟨z,o,h1,h2.mono h,h3.mono h,h4⟩,fun h ⟨z,o,h1,h2,h3,h4⟩=>⟨z,o,h1,h2.same h,h3.same h,h4⟩⟩
section
variable{H:Type} {enc:TypeId×Value->H} {w:World}
theorem Pq{A:Option Addr}{xs:List Value}(h:Rd w A xs):∀ad,A=some ad->xs≠[]->ad.block<w.heap.size:=by
 intro ad ha hne;rcases xs with _|⟨x,l⟩
 ·exact absurd rfl hne
 ·obtain⟨a,h1,h2⟩:=h 0 x rfl;rw[ha]at h1;injection h1 with h1
  subst h1;exact bc h2
theorem Ht{x:DataW H×List MemPlace}(h:DataW.trod enc prog w 0 (fun _=>true) true fuel 22 [v]=some x):∃(A:Option Addr) (c:Nat) (zs:List Int),v=.slice A zs.length c/\zs.length<=c/\zs.length<=9223372036854775807/\cA w (·<w.heap.size) .i64 A zs:=by
 rcases open_ints underlying22 underlying3 (by kernel_rfl) h with⟨hcs,_⟩|⟨a,l,c,zs,hcs,_,hl,hm,hz,hx,hcell,hwz⟩
 ·simp at hcs;exact⟨none,0,[],hcs,aS _,aF,cA.nil _ _ _ _⟩
 ·simp at hcs;have hz':zs.length=c:=by simpa using hz
  have hlen:(zs.take l).length=l:=by simp;omega
  have hr:bC w .i64 (some a) (zs.take l):=by
   intro i u hu;have hi:i<l/\i<zs.length:=by have:=(List.getElem?_eq_some_iff.1 hu).1;simp at this;omega
   refine⟨a,rfl,?_⟩;rw[hcell i hi.2];simp[hi.1]at hu;obtain⟨z,hz1,rfl⟩:=hu;simp[hz1]
  refine⟨some a,c,zs.take l,by rw[hlen];exact hcs,by rw[hlen];exact hl,by rw[hlen];unfold maxLen at hm;omega,hr,fun ad h1 h2=>Pq hr ad h1 (by simpa using h2)⟩
theorem Pr{x:DataW H×List MemPlace}(h:DataW.trod enc prog w 0 (fun _=>true) true fuel 40 [v]=some x):∃(A:Option Addr) (c:Nat) (cs:List (Int×Int×Int)),v=.slice A cs.length c/\cs.length<=9223372036854775807/\dv w (·<w.heap.size) bk A cs:=by
 have hint:∀{f0 f1 f2:Field} {j:Nat} {f:Field} (_:#[f0,f1,f2][j]?=some f) (_:prog.underlying f0.type=some (.int .i64)) (_:prog.underlying f1.type=some (.int .i64)) (_:prog.underlying f2.type=some (.int .i64)),prog.underlying f.type=some (.int .i64):=by
  intro f0 f1 f2 j f hj h0 h1 h2;match j,hj with
  |0,hj=>simp at hj;subst hj;exact h0
  |1,hj=>simp at hj;subst hj;exact h1
  |2,hj=>simp at hj;subst hj;exact h2
  |j+3,hj=>simp at hj
 rcases AE underlying40 underlying110 (by kernel_rfl) (by kernel_rfl) (fun j f hj=>hint hj underlying3 underlying3 underlying3) h with h1|⟨a,len,cap,F,h1,hl,hm,hc⟩
 ·simp at h1;exact⟨none,0,[],h1,aF,dv.nil _ _ _ _⟩
 ·simp at h1;have hlen:((List.range len).map fun i=>(F i 0,F i 1,F i 2)).length=len:=aF;have hr:cN w bk (some a) ((List.range len).map fun i=>(F i 0,F i 1,F i 2)):=by
   refine cN.Dk eZ ?_;intro i c hi r u hu;have vE:i<len:=by have:=(List.getElem?_eq_some_iff.1 hi).1;simpa using this
   simp[vE]at hi;subst hi;have hr:r<3:=by have:=(List.getElem?_eq_some_iff.1 hu).1;simpa[bk]using this
   have h3:w.cell? (a.add (i*3+r))=some (.int .i64 (F i r)):=hc i vE r hr;rw[h3];obtain rfl|rfl|rfl:r=0\/r=1\/r=2:=ae;all_goals(simp[bk]at hu;rw[hu])
  refine⟨some a,cap,_,by rw[hlen];exact h1,by rw[hlen];unfold maxLen at hm;omega,hr,fun ad h1 h2=>Pq hr ad h1 fun e=>?_⟩;have e1:=mJ (f:=bk) eZ ((List.range len).map fun i=>(F i 0,F i 1,F i 2));rw[e]at e1;exact h2 (List.eq_nil_of_length_eq_zero (by simp at e1 ⊢;omega))
theorem iF{x:DataW H×List MemPlace}(h:DataW.trod enc prog w 0 (fun _=>true) true fuel 3 [v]=some x):∃z,v=.int .i64 z:=by obtain⟨z,e,_,_⟩:=DataW.trod_int underlying3 h;simp at e;exact⟨z,e⟩
theorem Ps{cs:List Value}{x:DataW H×List MemPlace}(hl:cs.length=9)(h:DataW.trod enc prog w 0 (fun _=>true) true fuel 57 cs=some x):∃e,Yy w (·<w.heap.size) cs e:=by
 match cs,hl with
 |[v0,v1,v2,v3,v4,v5,v6,v7,v8],_ =>
  obtain⟨xs,n,_,_,_,hlen,hf⟩:=DataW.trod_struct underlying57 h;have ki:prog.cellsOf 3=1:=by kernel_rfl
  have kb:prog.cellsOf 4=1:=by kernel_rfl
  have kr:prog.cellsOf 42=5:=by kernel_rfl
  have ks:prog.cellsOf 22=1:=by kernel_rfl
  have kc:prog.cellsOf 40=1:=by kernel_rfl
  match xs,hlen with
  |[y0,y1,y2,y3,y4],_ =>
   obtain⟨a0,rfl⟩:=iF (enc:=enc) (w:=w) (v:=v0) (x:=y0) (by simpa[ki]using hf 0 _ rfl);obtain⟨a1,rfl⟩:=iF (enc:=enc) (w:=w) (v:=v1) (x:=y1) (by simpa[ki]using hf 1 _ rfl);have f2:DataW.trod enc prog w 0 (fun _=>true) true n 42 [v2,v3,v4,v5,v6]=some y2:=by simpa[kr]using hf 2 _ rfl
   obtain⟨a7,rfl⟩:=iF (enc:=enc) (w:=w) (v:=v7) (x:=y3) (by simpa[ki]using hf 3 _ rfl);obtain⟨A8,c8,os,rfl,h8,h8l,h8r⟩:=Ht (enc:=enc) (w:=w) (v:=v8) (x:=y4) (by simpa[ks]using hf 4 _ rfl);obtain⟨zs,m,_,_,_,hlen2,hg⟩:=DataW.trod_struct underlying42 f2;match zs,hlen2 with
   |[z0,z1,z2,z3,z4],_ =>
    obtain⟨a2,rfl⟩:=iF (enc:=enc) (w:=w) (v:=v2) (x:=z0) (by simpa[ki]using hg 0 _ rfl);obtain⟨a3,rfl⟩:=iF (enc:=enc) (w:=w) (v:=v3) (x:=z1) (by simpa[ki]using hg 1 _ rfl);obtain⟨a4,rfl⟩:=iF (enc:=enc) (w:=w) (v:=v4) (x:=z2) (by simpa[ki]using hg 2 _ rfl);have g3:DataW.trod enc prog w 0 (fun _=>true) true m 4 [v5]=some z3:=by simpa[kb]using hg 3 _ rfl
    obtain⟨a5,e5,_⟩:=DataW.trod_bool underlying4 g3;simp at e5;subst e5;obtain⟨A6,c6,qs,rfl,h6,h6r⟩:=Pr (enc:=enc) (w:=w) (v:=v6) (x:=z4) (by simpa[kc]using hg 4 _ rfl);exact⟨⟨a0,a1,⟨a2,a3,a4,a5,qs⟩,a7,os⟩,⟨A6,c6⟩,⟨A8,c8⟩,rfl,h6r,h8r,h8,h6,h8l⟩
theorem Kw{A:Option Addr}{c:Nat}{d:DataW H}{p:List MemPlace}(h:DataW.Trod enc prog w 0 (fun _=>true) true 25 (.slice A m c) d p) :
 ∃ks:List Mo.Ev,m=ks.length/\jF 9 Yy w (·<w.heap.size) A ks:=by
 obtain⟨fuel,h⟩:=h
 rcases open_slice underlying25 h with⟨h1,_⟩|⟨a,len,cap,mm,n,D,Pl,hcs,hb,hl,hm,V5,hx,hi⟩
 ·simp[Value.cells]at h1;obtain⟨rfl,rfl,rfl⟩:=h1;exact⟨[],rfl,jF.nil _ _ _ _ _⟩
 ·simp[Value.cells]at hcs;obtain⟨rfl,rfl,rfl⟩:=hcs;have kE:prog.cellsOf 57=9:=by kernel_rfl
  have one:∀(e:Mo.Ev) (z o:Sl),∀u∈FR e z o,u.oneCell'=true:=fun e z o=>List.all_eq_true.1 (by rfl);have key:∀i,∃(e:Mo.Ev) (r:Row 9),i<m->Yy w (·<w.heap.size) r.val e/\∀(j:Nat) (u:Value),r.val[j]?=some u->w.cell? (a.add (i*9+j))=some u:=by
   intro i;by_cases vE:i<m
   ·obtain⟨cs',hc,VV⟩:=hi i (by simp only[if_true]at V5;omega);rw[kE]at hc;obtain⟨_,lO,hat⟩:=World.cells?_some hc;obtain⟨e,z,o,he,hr⟩:=Ps lO VV;refine⟨e,⟨FR e z o,rfl,one e z o⟩,fun _=>⟨⟨z,o,rfl,hr⟩,fun j u hu=>?_⟩⟩;have hj:j<9:=(List.getElem?_eq_some_iff.1 hu).1;rw[<-Go.Deep.add_add,hat j hj,he,hu]
   ·exact⟨⟨0,0,Mo.qi,0,[]⟩,⟨FR ⟨0,0,Mo.qi,0,[]⟩ ⟨none,0⟩ ⟨none,0⟩,rfl,one _ _ _⟩,fun h=>absurd h vE⟩
  obtain⟨F,R,hF⟩:∃(F:Nat->Mo.Ev) (R:Nat->Row 9),∀i,i<m->Yy w (·<w.heap.size) (R i).val (F i)/\∀(j:Nat) (u:Value),(R i).val[j]?=some u->w.cell? (a.add (i*9+j))=some u:=⟨fun i=>(key i).choose,fun i=>(key i).choose_spec.choose,fun i=>(key i).choose_spec.choose_spec⟩
  refine⟨(List.range m).map F,aF,(List.range m).map R,aF,cN.Dk bQ ?_,?_⟩
  ·intro i r hr j u hu;have Yx:i<m:=by have:=(List.getElem?_eq_some_iff.1 hr).1;simpa using this
   simp[Yx]at hr;subst hr;exact(hF i Yx).2 j u hu
  ·intro i r x hr hx;have Yx:i<m:=by have:=(List.getElem?_eq_some_iff.1 hr).1;simpa using this
   simp[Yx]at hr hx;subst hr hx;exact(hF i Yx).1
theorem Yz{d:DataW H}{p:List MemPlace}{r:Reach}{b:Nat}(hv:Value.okWide prog w r b 24 v)(h:DataW.Trod enc prog w 0 (fun _=>true) true 24 v d p):∃(c:Mo.bH) (A:Option Addr) (k:Nat),v=mH c A c.start.length k/\bC w .i64 A c.start:=by
 have hs:=underlying24;obtain⟨cs,rfl,hsz⟩:=okWide_struct hs hv;have hsz:=hsz.trans (by kernel_rfl:prog.cellsOf 24=11);obtain⟨l⟩:=cs;match l,hsz with
 |[c0,c1,c2,c3,c4,c5,c6,c7,c8,c9,c10],_ =>
  obtain⟨fuel,hf⟩:=h;obtain⟨xs,n,_,_,_,hlen,hg⟩:=DataW.trod_struct hs hf;have ki:prog.cellsOf 3=1:=by kernel_rfl
  have ks:prog.cellsOf 22=1:=by kernel_rfl
  match xs,hlen with
  |[y0,y1,y2,y3,y4,y5,y6,y7,y8,y9,y10],_=>obtain⟨a0,rfl⟩:=iF (enc:=enc) (w:=w) (v:=c0) (x:=y0) (by simpa[ki,Value.cells]using hg 0 _ rfl);obtain⟨a1,rfl⟩:=iF (enc:=enc) (w:=w) (v:=c1) (x:=y1) (by simpa[ki,Value.cells]using hg 1 _ rfl);obtain⟨a2,rfl⟩:=iF (enc:=enc) (w:=w) (v:=c2) (x:=y2) (by simpa[ki,Value.cells]using hg 2 _ rfl);obtain⟨a3,rfl⟩:=iF (enc:=enc) (w:=w) (v:=c3) (x:=y3) (by simpa[ki,Value.cells]using hg 3 _ rfl);obtain⟨a4,rfl⟩:=iF (enc:=enc) (w:=w) (v:=c4) (x:=y4) (by simpa[ki,Value.cells]using hg 4 _ rfl);obtain⟨a5,rfl⟩:=iF (enc:=enc) (w:=w) (v:=c5) (x:=y5) (by simpa[ki,Value.cells]using hg 5 _ rfl);obtain⟨a6,rfl⟩:=iF (enc:=enc) (w:=w) (v:=c6) (x:=y6) (by simpa[ki,Value.cells]using hg 6 _ rfl);obtain⟨a7,rfl⟩:=iF (enc:=enc) (w:=w) (v:=c7) (x:=y7) (by simpa[ki,Value.cells]using hg 7 _ rfl);obtain⟨a8,rfl⟩:=iF (enc:=enc) (w:=w) (v:=c8) (x:=y8) (by simpa[ki,Value.cells]using hg 8 _ rfl);obtain⟨a9,rfl⟩:=iF (enc:=enc) (w:=w) (v:=c9) (x:=y9) (by simpa[ki,Value.cells]using hg 9 _ rfl);obtain⟨A,k,zs,rfl,_,_,hr⟩:=Ht (enc:=enc) (w:=w) (v:=c10) (x:=y10) (by simpa[ks,Value.cells]using hg 10 _ rfl);exact⟨⟨a0,a1,a2,a3,a4,a5,a6,a7,a8,a9,zs⟩,A,k,rfl,hr.1⟩
end
end Go.Proofs.YtjcjjiieblineaaGreat
