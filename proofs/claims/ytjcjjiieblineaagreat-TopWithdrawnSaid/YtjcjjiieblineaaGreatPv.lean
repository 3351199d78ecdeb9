/- Walks and plain facts. No condition. -/
import Derived.Test.YtjcjjiieblineaaGreatSe
import Derived.Test.YtjcjjiieblineaaGreatPb
namespace Go.Proofs.YtjcjjiieblineaaGreat
open Go.ChangeShapes Go.WideShapes Go.ChangeAt Go.RowKit Go.Proofs.Tryz
set_option maxHeartbeats 8000000
set_option maxRecDepth 100000
set_option linter.all false
section
variable{H:Type} {enc:TypeId×Value->H} {P:Program}
theorem yl(hl:laidOutB P=true){W W':World}(hb:Below W W W') :
 ∀(ts:List TypeId) (vs:List Value) (ds:List (DataW H)) (p:List MemPlace),(∀t∈ts,P.readableRec t=true/\t<P.types.size) ->
  DataW.TrodAll enc P W 0 (fun _=>true) true ts vs ds p->(∀x∈p,x.block<W.heap.size) ->
  DataW.TrodAll enc P W' 0 (fun b=>decide (b<W.heap.size)) true ts vs ds p:=by
 intro ts
 induction ts with
 |nil=>intro vs ds p _ h _;obtain⟨rfl,rfl,rfl⟩:=trodAll_nil h;exact trodAll_mk0
 |cons t ts ih =>
  intro vs ds p hts h hlt;obtain⟨v,vs',d,ds',p1,q1,rfl,rfl,rfl,h0,r0⟩:=trodAll_cons h;have ht:=hts t List.mem_cons_self;exact trodAll_cons_mk (Below.trod hl ht.1 ht.2 h0 hb (fun x hx=>hlt x (List.mem_append_left _ hx)))
   (ih vs' ds' q1 (fun t' VV=>hts t' (List.mem_cons_of_mem _ VV)) r0 (fun x hx=>hlt x (List.mem_append_right _ hx)))
theorem AD(hl:laidOutB P=true){s:ChangeSpec}{fn:Func}{k:FuncId}{tb:TypeId}(hs:s.vars=[])(htb:P.underlying tb=some .bool)(hres:fn.resultTypes=#[tb])(hts:∀t∈fn.params.toList,P.readableRec t=true/\t<P.types.size){W:World}{args:Array Value}{ds gs:List (DataW H)}{before:List MemPlace}(Pp:(s.fn H (ds++[])).results=[.lit (.bool true)]/\(s.fn H (ds++[])).args=ds/\(s.fn H (ds++[])).vars=[])(hW:DataW.Whole enc P fn.params.toList s.vars false W args.toList ds gs before)(walk:Calls P k args W fun e w'=>e=.returned true/\Below W W w') :
 Calls P k args W fun e W'=>∃v,e=.returned v/\s.post enc P fn false true false false W args v W':=by
 have hW':=hW
 obtain⟨p,q,hA,hV,rfl,_,_⟩:=hW
 have hV':DataW.TrodVars enc P W (fun _=>true) [] gs q:=hs▸hV
 obtain⟨rfl,rfl⟩:=trodVars_none hV'
 have hlt:∀x∈p,x.block<W.heap.size:=fun x hx=>hW'.lt x (by simpa using hx)
 refine walk.mono fun e W' ⟨he,hb⟩=>?_
 subst he
 refine⟨_,rfl,ds,[],_,[],p,[],hW',?_,?_,?_,hb.frame _,fun h=>by cases h⟩
 ·rw[Pp.1,hres];exact trodAll_mk1 (shut_bool htb _)
 ·rw[Pp.2.1];exact yl hl hb _ _ _ _ hts hA hlt
 ·rw[Pp.2.2,hs];rfl
end
theorem Tryz.own:ownKnob Tryz.prog.godebug=none:=by kernel_rfl
theorem Tryz.laidOut:laidOutB Tryz.prog=true:=by kernel_rfl
end Go.Proofs.YtjcjjiieblineaaGreat
