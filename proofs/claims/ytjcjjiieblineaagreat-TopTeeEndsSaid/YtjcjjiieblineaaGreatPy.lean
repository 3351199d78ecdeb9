/- Walks and plain facts. No condition. -/
import Derived.Test.YtjcjjiieblineaaGreatSe
import Derived.Test.YtjcjjiieblineaaGreatPb
namespace Go.Proofs.YtjcjjiieblineaaGreat
open Go.ChangeShapes Go.WideShapes Go.ChangeAt Go.RowKit Go.Proofs.Tryz
set_option maxHeartbeats 8000000
set_option maxRecDepth 100000
set_option linter.all false
section
variable{H:Type} {enc:TypeId×Value->H} {P:Program}
theorem Ap(r:laidOutB P=true){W m:World}(q:Below W W m) :
 ∀(a:List TypeId) (g:List Value) (f:List (DataW H)) (p:List MemPlace),(∀t∈a,P.readableRec t=true/\t<P.types.size) ->
  DataW.TrodAll enc P W 0 (fun _=>true) true a g f p->(∀x∈p,x.block<W.heap.size) ->
  DataW.TrodAll enc P m 0 (fun b=>decide (b<W.heap.size)) true a g f p:=by
 intro a
 induction a with
 |nil=>intro g f p _ h _;obtain⟨rfl,rfl,rfl⟩:=trodAll_nil h;exact trodAll_mk0
 |cons t a s =>
  intro g f p e h c;obtain⟨v,l,d,i,z,u,rfl,rfl,rfl,o,w⟩:=trodAll_cons h;have n:=e t List.mem_cons_self;exact trodAll_cons_mk (Below.trod r n.1 n.2 o q (fun x k=>c x (List.mem_append_left _ k)))
   (s l i u (fun y j=>e y (List.mem_cons_of_mem _ j)) w (fun x k=>c x (List.mem_append_right _ k)))
theorem CV(w:laidOutB P=true){s:ChangeSpec}{fn:Func}{k:FuncId}{o:TypeId}(n:s.vars=[])(g:P.underlying o=some .bool)(hres:fn.resultTypes=#[o])(i:∀t∈fn.params.toList,P.readableRec t=true/\t<P.types.size){W:World}{args:Array Value}{a l:List (DataW H)}{before:List MemPlace}(c:(s.fn H (a++[])).results=[.lit (.bool true)]/\(s.fn H (a++[])).args=a/\(s.fn H (a++[])).vars=[])(m:DataW.Whole enc P fn.params.toList s.vars false W args.toList a l before)(walk:Calls P k args W fun e z=>e=.returned true/\Below W W z) :
 Calls P k args W fun e j=>∃v,e=.returned v/\s.post enc P fn false true false false W args v j:=by
 have b:=m
 obtain⟨p,q,r,u,rfl,_,_⟩:=m
 have d:DataW.TrodVars enc P W (fun _=>true) [] l q:=n▸u
 obtain⟨rfl,rfl⟩:=trodVars_none d
 have f:∀x∈p,x.block<W.heap.size:=fun x y=>b.lt x (by simpa using y)
 refine walk.mono fun e j ⟨he,hb⟩=>?_
 subst he
 refine⟨_,rfl,a,[],_,[],p,[],b,?_,?_,?_,hb.frame _,fun h=>by cases h⟩
 ·rw[c.1,hres];exact trodAll_mk1 (shut_bool g _)
 ·rw[c.2.1];exact Ap w hb _ _ _ _ i r f
 ·rw[c.2.2,n];rfl
theorem Ss{w:World}{p:List MemPlace}{D:List TypeId}{v:List (DataW H)}{j:Nat}{t e:TypeId}{k:IntKind}{A:Option Addr}{b g:Nat}{d:DataW H}(B:P.underlying t=some (.slice e))(G:P.underlying e=some (.int k))(E:P.cellsOf e=1)(m:P.bytesOf e=8)(n:(DataW.weightsEach P D v).all (·<=reachBytes)=true)(J:D[j]?=some t)(F:v[j]?=some d)(h:DataW.Trod enc P w 0 (fun _=>true) true t (.slice A b g) d p) :
 ∃f:List Int,f.length=b/\bJ w k A f/\(∀z∈f,(Lit.int k z).wf=true)/\f.length<=17592186043904:=by
 obtain⟨fuel,I⟩:=h
 rcases open_ints B G E I with⟨a,_⟩|⟨x,l,c,f,a,_,L,M,K,C,hcell,q⟩
 ·simp[Value.cells]at a;obtain⟨rfl,rfl,rfl⟩:=a;exact⟨[],rfl,bJ.nil _ _ _,aD,aD⟩
 ·simp[Value.cells]at a;obtain⟨rfl,rfl,rfl⟩:=a;simp only[if_true]at K;simp only[Prod.mk.injEq]at C;obtain⟨rfl,_⟩:=C;have:=sized_slice n J F B;rw[m]at this;simp only[lits,cW,fF,ie,reachBytes]at this;refine⟨f.take b,by simp;omega,?_,fun z r=>q z (List.mem_of_mem_take r),by simp;omega⟩;intro i u o;have y:i<b/\i<f.length:=by
   have:=(List.getElem?_eq_some_iff.1 o).1;simp at this;omega
  refine⟨x,rfl,?_⟩;rw[hcell i y.2];simp[y.1]at o;obtain⟨z,s,rfl⟩:=o;simp[s]
end
theorem Tryz.own:ownKnob Tryz.prog.godebug=none:=by kernel_rfl
theorem Tryz.laidOut:laidOutB Tryz.prog=true:=by kernel_rfl
end Go.Proofs.YtjcjjiieblineaaGreat
