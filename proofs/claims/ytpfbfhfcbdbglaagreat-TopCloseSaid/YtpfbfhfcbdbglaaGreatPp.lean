/- Walks and plain facts. No condition. -/
import Derived.Test.YtpfbfhfcbdbglaaGreatSe
import Derived.Test.YtpfbfhfcbdbglaaGreatPb
namespace Go.Proofs.YtpfbfhfcbdbglaaGreat
open Go.ChangeShapes Go.WideShapes Go.ChangeAt Go.RowKit Go.Proofs.Tryz Mo
set_option maxHeartbeats 8000000
set_option maxRecDepth 100000
set_option linter.all false
variable {H:Type}{P:Program}{W:World}{enc:TypeId × Value->H}
theorem Au(r:laidOutB P=true){m:World}(q:Below W W m) :
 ∀(a:List TypeId) (g:List Value) (f:List (DataW H)) (p:List MemPlace),(∀t∈a,P.readableRec t=true/\t<P.types.size) ->
  DataW.TrodAll enc P W 0 (λ_=>true) true a g f p->(∀x∈p,x.block<W.heap.size) ->
  DataW.TrodAll enc P m 0 (λb=>decide (b<W.heap.size)) true a g f p:=by
 intro a
 induction a with
 |nil=>intro g f p _ h _;obtain⟨rfl,rfl,rfl⟩:=trodAll_nil h;exact trodAll_mk0
 |cons t a s =>
  intro g f p e h c;obtain⟨v,l,d,i,z,u,rfl,rfl,rfl,o,w⟩:=trodAll_cons h;have n:=e t List.mem_cons_self;exact trodAll_cons_mk (Below.trod r n.1 n.2 o q (λx k=>c x (List.mem_append_left _ k)))
   (s l i u (λy j=>e y (List.mem_cons_of_mem _ j)) w (λx k=>c x (List.mem_append_right _ k)))
theorem CP(w:laidOutB P=true){s:ChangeSpec}{fn:Func}{k:FuncId}{o:TypeId}(n:s.vars=[])(g:P.underlying o=some .bool)(hres:fn.resultTypes=#[o])(i:∀t∈fn.params.toList,P.readableRec t=true/\t<P.types.size){args:Array Value}{a l:List (DataW H)}{before:List MemPlace}(c:(s.fn H (a++[])).results=[.lit (.bool true)]/\(s.fn H (a++[])).args=a/\(s.fn H (a++[])).vars=[])(m:DataW.Whole enc P fn.params.toList s.vars false W args.toList a l before)(walk:Calls P k args W λe z=>e=.returned true/\Below W W z) :
 Calls P k args W λe j=>∃v,e=.returned v/\s.post enc P fn false true false false W args v j:=by
 have b:=m
 obtain⟨p,q,r,u,rfl,_,_⟩:=m
 have d:DataW.TrodVars enc P W (λ_=>true) [] l q:=n▸u
 obtain⟨rfl,rfl⟩:=trodVars_none d
 have f:∀x∈p,x.block<W.heap.size:=λx y=>b.lt x (by simpa using y)
 refine walk.mono λe j ⟨he,hb⟩=>?_
 subst he
 refine⟨_,rfl,a,[],_,[],p,[],b,?_,?_,?_,hb.frame _,λh=>by cases h⟩
 .rw[c.1,hres];exact trodAll_mk1 (shut_bool g _)
 .rw[c.2.1];exact Au w hb _ _ _ _ i r f
 .rw[c.2.2,n];rfl
theorem Tryz.own:ownKnob Tryz.prog.godebug=none:=by kernel_rfl
theorem Tryz.laidOut:laidOutB Tryz.prog=true:=by kernel_rfl
end Go.Proofs.YtpfbfhfcbdbglaaGreat
