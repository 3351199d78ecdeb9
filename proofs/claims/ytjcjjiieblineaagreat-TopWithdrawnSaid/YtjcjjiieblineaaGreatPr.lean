/- Walks and plain facts. No condition. -/
import Derived.Test.YtjcjjiieblineaaGreatPg
import Derived.Test.YtjcjjiieblineaaGreatPq
namespace Go.Proofs.YtjcjjiieblineaaGreat
open Go.RowKit Go.Proofs.Tryz
set_option maxHeartbeats 8000000
set_option maxRecDepth 100000
set_option linter.all false
variable {w w' w1:World}{α:Type}{e:TypeId}{v v':Value}{t b j d:Nat}{a:Act}{Q:Exit->Act->World->Prop}{ops:Array Oper}{L:List Int}{E:Prop}{xs:List α}
structure GQ (w:World) (bs g4 g5:Nat) (v:Value) (outs:List Int) (arr:Array Value) (wx:World):Prop where
 jE:Below w w wx
 q:af wx g4 86 #[false,false,false,oZ,oN,oZ,oZ]
 o:af wx g5 86 arr
 i:aL wx bs 3 .i64 v outs
 l:w.heap.size<=g4/\g4<g5/\g5<bs
section
variable{w wx wy:World} {bs g4 g5:Nat} {v:Value} {outs:List Int} {arr:Array Value}
theorem GQ.ext(h:GQ w bs g4 g5 v outs arr wx)(hb:Below wx wx wy):GQ w bs g4 g5 v outs arr wy:=⟨ag h.jE hb,h.q.ag hb,h.o.ag hb,h.i.ag hb,h.l⟩
theorem GQ.alloc(h:GQ w bs g4 g5 v outs arr wx)(o:Obj):GQ w bs g4 g5 v outs arr (wx.alloc o):=h.ext (ak (aj _) o)
theorem GQ.set(h:GQ w bs g4 g5 v outs arr wx)(i:Nat)(u:Value):GQ w bs g4 g5 v outs (arr.setIfInBounds i u) (wx.setCell ⟨g5,i,none⟩ u) :=
 have hl:=h.l
 ⟨h.jE.setCell (p:=⟨g5,i,none⟩) (by show _<=g5;omega) u,aW h.q ae [u] i,h.o.bb i u,bR (fun g' hg=>by have:=(aX h.i hg).1;omega) [u] _ i _ h.i,hl⟩
end
section
variable(w:World)
theorem zl(p:Mo.Pm)(s:Sl)(r:Mo.Rs)(hr:bC w .i64 s.A p.outs)(hl:p.outs.length<=8)(hc:p.outs.length<=s.c):Calls prog 76 #[.agg (kM p s).toArray,.agg #[r.seq,r.cs,r.code,r.value]] w fun e w'=>∃z,e=.returned (.agg (kM (Mo.ja p r) z).toArray)/\abW w w' (Mo.ja p r) z/\Below w w w':=by
 have qQ:=aa (fun wx (hb:Below w w wx)=>qI wx p s (hr.below hb) hl hc);unfold PmE kM ml at qQ;have gu:=aa (fun wx (hb:Below w w wx)=>gq wx s.A s.c p.outs rfl ae (hr.below hb));obtain⟨q,hq⟩:=aD ((Mo.fw p).getD Mo.qi);obtain⟨b,hb⟩:=aD ((Mo.fw p).isSome);rw[<-hq, <-hb]at qQ;have K1:Hid ((Mo.fw p).isNone= !b):=by unfold Hid;rw[hb];cases Mo.fw p<;>rfl
 have hat:b=true->0<=p.at_/\p.at_<=8:=by
  rw[hb];unfold Mo.fw;split
  ·intro h;cases h
  ·rename_i h;intro _;simp only[not_or]at h;omega
 have HE:Hid (Mo.ja p r=if(Mo.fw p).isNone=true then p else if r.code=6\/r.code=11 then p else if r.code=7 then{p with over:=true}else if p.shut=true then{p with at_:=p.at_+1,over:=decide (p.at_+1=p.outs.length)}else if 0<p.at_ then{p with at_:=(p.at_+1)%(p.outs.length+1)}else if r.code=0 then{p with value:=r.value,at_:=1}else{p with shut:=true}):=rfl;clear hq hb hr;obtain⟨on,sh,ov,ek,outs,at_,v⟩:=p;obtain⟨A,d⟩:=s;unfold kM;dsimp only at *;obtain⟨n,hn⟩:=aD outs.length;rw[<-hn]at qQ gu HE hl hc ⊢;have HN:=aa hn;clear hn;obtain⟨w2,hw2⟩:=aD ((((w.alloc (.cells #[on,sh,ov,ek,.slice A n d,at_,v] 86)).alloc (pD r.seq r.cs r.code r.value)).alloc (.cells #[false,false,false,oZ,oN,oZ,oZ] 86)).alloc (.cells #[on,sh,ov,ek,.slice A n d,at_,v] 86));have bq:Hid (Below w w w2):=by rw[hw2];exact ak (ak (ak (ak (aj w) _) _) _) _
 have xG:Hid (af w2 w.heap.size 86 #[on,sh,ov,ek,.slice A n d,at_,v]):=by rw[hw2];exact(((af.new _ _ _).alloc _).alloc _).alloc _
 have g9:Hid (af w2 (w.heap.size+1) 48 #[r.seq,r.cs,r.code,r.value]):=by rw[hw2];exact((af.newAt _ _ _ aF).alloc _).alloc _
 have gp:Hid (af w2 (w.heap.size+1+1) 86 #[false,false,false,oZ,oN,oZ,oZ]):=by rw[hw2];exact(af.newAt _ _ _ aF).alloc _
 have eu:Hid (af w2 (w.heap.size+1+1+1) 86 #[on,sh,ov,ek,.slice A n d,at_,v]):=by rw[hw2];exact af.newAt _ _ _ aF
 have qT:=aa hw2;clear hw2;go_enter func76,ntmps76;go_upto_region 2 with fail
 rw[<-qT.out];clear qT;obtain⟨aA,-,aU⟩:=af.aK xG;have hgo:=eu.lt;go_wp2_with fail;refine(gu _ bq).mono ?_;rintro e w3 ⟨B,m,rfl,hm,ho,hb3⟩;have HL:Hid (w.heap.size+1+1+1<w2.heap.size):=eu.lt;have PE:GQ w w2.heap.size (w.heap.size+1+1) (w.heap.size+1+1+1) (.slice B n m) outs _ w3:=⟨ag bq hb3,gp.ag hb3,eu.ag hb3,ho,ae,ae,eu.lt⟩
 have G4:=aa (PE.set 4 (.slice B n m));have HM:=aa hm;have MK:Hid (af (w3.setCell ⟨w.heap.size+1+1+1,4,none⟩ (.slice B n m)) w.heap.size 86 _):=aW (xG.ag hb3) ae [.slice B n m] 4;have jY:Hid (af (w3.setCell ⟨w.heap.size+1+1+1,4,none⟩ (.slice B n m)) (w.heap.size+1) 48 _):=aW (g9.ag hb3) ae [.slice B n m] 4;have U7:=fun i=>af.free PE.o i;obtain⟨S1,-,hgo⟩:=af.aK PE.o;clear hb3 ho hm aA aU xG g9 gp eu bq gu PE;go_upto_region 3 with fail
 clear U7 S1 hgo;generalize w3.setCell ⟨w.heap.size+1+1+1,4,none⟩ (.slice B n m)=w4 at *;obtain⟨aA,-,aU⟩:=af.aK MK;go_wp2_with fail;refine(qQ _ G4.jE).mono ?_;rintro e w5 ⟨⟨zA,zc⟩,rfl,_,di⟩;have G5:=aa (G4.ext di);have KV:=aa (MK.ag di);have jd:=aa (jY.ag di);clear aA aU di G4 MK jY qQ;obtain⟨aA,-,aU⟩:=af.aK KV;obtain⟨jG,-,hgr⟩:=af.aK jd;obtain⟨S1,U7,hgo⟩:=af.aK G5.o;simp only[List.setIfInBounds_toArray,List.set_cons_zero,List.set_cons_succ]at S1;have hcs:b=false\/(b=true/\r.code=6)\/(b=true/\r.code=11)\/(b=true/\r.code=7)\/(b=true/\(r.code≠6/\r.code≠11/\r.code≠7)/\sh=true)\/(b=true/\(r.code≠6/\r.code≠11/\r.code≠7)/\sh=false/\0<at_)\/(b=true/\(r.code≠6/\r.code≠11/\r.code≠7)/\sh=false/\at_<=0/\r.code=0)\/(b=true/\(r.code≠6/\r.code≠11/\r.code≠7)/\sh=false/\at_<=0/\r.code≠0):=by cases b<;>cases sh<;>simp<;>omega
 rcases hcs with rfl|⟨rfl,h6⟩|⟨rfl,h6⟩|⟨rfl,h6⟩|⟨rfl,h6,rfl⟩|⟨rfl,h6,rfl,h0⟩|⟨rfl,h6,rfl,h0,h1⟩|⟨rfl,h6,rfl,h0,h1⟩
 case' inl =>
  go_upto_region 5 with fail
  obtain⟨p',nA⟩:∃p':Mo.Pm,p'=⟨on,sh,ov,ek,outs,at_,v⟩:=⟨_,rfl⟩
  have iD:Hid (Mo.ja ⟨on,sh,ov,ek,outs,at_,v⟩ r=p'):=by unfold Hid;rw[HE.out,K1.out];rw[au ah];exact nA.symm
  have IP:Hid (p'.outs=outs):=by unfold Hid;rw[nA]
  have hG:GQ w w2.heap.size (w.heap.size+1+1) (w.heap.size+1+1+1) (.slice B n m) outs (kM p' ⟨B,m⟩).toArray (w5.alloc (iG q zA q.cases.length zc)):=by have h:=G5.alloc (iG q zA q.cases.length zc);rw[nA,kM];dsimp only;rw[<-HN.out];exact h
  generalize w5.alloc (iG q zA q.cases.length zc)=w6 at *
 case' inr.inl =>
  have Kn:(r.code==6)=true:=by rw[h6];rfl
  go_upto_region 9 with fail
  obtain⟨p',nA⟩:∃p':Mo.Pm,p'=⟨on,sh,ov,ek,outs,at_,v⟩:=⟨_,rfl⟩
  have iD:Hid (Mo.ja ⟨on,sh,ov,ek,outs,at_,v⟩ r=p'):=by unfold Hid;rw[HE.out,K1.out];rw[ai ah,au (.inl h6)];exact nA.symm
  have IP:Hid (p'.outs=outs):=by unfold Hid;rw[nA]
  have hG:GQ w w2.heap.size (w.heap.size+1+1) (w.heap.size+1+1+1) (.slice B n m) outs (kM p' ⟨B,m⟩).toArray (w5.alloc (iG q zA q.cases.length zc)):=by have h:=G5.alloc (iG q zA q.cases.length zc);rw[nA,kM];dsimp only;rw[<-HN.out];exact h
  generalize w5.alloc (iG q zA q.cases.length zc)=w6 at *
 case' inr.inr.inl =>
  have Kn:(r.code==6)=false:=by rw[h6];rfl
  have hx7:(r.code==11)=true:=by rw[h6];rfl
  go_upto_region 9 with fail
  obtain⟨p',nA⟩:∃p':Mo.Pm,p'=⟨on,sh,ov,ek,outs,at_,v⟩:=⟨_,rfl⟩
  have iD:Hid (Mo.ja ⟨on,sh,ov,ek,outs,at_,v⟩ r=p'):=by unfold Hid;rw[HE.out,K1.out];rw[ai ah,au (.inr h6)];exact nA.symm
  have IP:Hid (p'.outs=outs):=by unfold Hid;rw[nA]
  have hG:GQ w w2.heap.size (w.heap.size+1+1) (w.heap.size+1+1+1) (.slice B n m) outs (kM p' ⟨B,m⟩).toArray (w5.alloc (iG q zA q.cases.length zc)):=by have h:=G5.alloc (iG q zA q.cases.length zc);rw[nA,kM];dsimp only;rw[<-HN.out];exact h
  generalize w5.alloc (iG q zA q.cases.length zc)=w6 at *
 case' inr.inr.inr.inl =>
  have Kn:(r.code==6)=false:=by rw[h6];rfl
  have hx7:(r.code==11)=false:=by rw[h6];rfl
  have hx8:(r.code==7)=true:=by rw[h6];rfl
  go_upto_region 12 with fail
  obtain⟨p',nA⟩:∃p':Mo.Pm,p'=⟨on,sh,true,ek,outs,at_,v⟩:=⟨_,rfl⟩
  have iD:Hid (Mo.ja ⟨on,sh,ov,ek,outs,at_,v⟩ r=p'):=by unfold Hid;rw[HE.out,K1.out];rw[ai ah,ai ae,au h6];exact nA.symm
  have IP:Hid (p'.outs=outs):=by unfold Hid;rw[nA]
  have hG:GQ w w2.heap.size (w.heap.size+1+1) (w.heap.size+1+1+1) (.slice B n m) outs (kM p' ⟨B,m⟩).toArray ((w5.setCell ⟨w.heap.size+1+1+1,2,none⟩ true).alloc (iG q zA q.cases.length zc)):=by have h:=(G5.set 2 true).alloc (iG q zA q.cases.length zc);rw[nA,kM];dsimp only;rw[<-HN.out];exact h
  generalize(w5.setCell ⟨w.heap.size+1+1+1,2,none⟩ true).alloc (iG q zA q.cases.length zc)=w6 at *
 case' inr.inr.inr.inr.inl =>
  have Kn:(r.code==6)=false:=by rw[cq];exact h6.1
  have hx7:(r.code==11)=false:=by rw[cq];exact h6.2.1
  have hx8:(r.code==7)=false:=by rw[cq];exact h6.2.2
  have hat:=hat rfl;have he1:IntKind.i64.wrap (at_+1)=at_+1:=bK _ ae;have he2:IntKind.i64.wrap ((n:Int)+1)=(n:Int)+1:=bK _ ae;have nS:((n:Int)+1==0)=false:=by rw[cq];omega
  have OZ:(at_+1).tmod ((n:Int)+1)=(at_+1)%((n:Int)+1):=Int.tmod_eq_emod_of_nonneg ae;go_upto_region 21 with fail
  obtain⟨p',nA⟩:∃p':Mo.Pm,p'=⟨on,true,decide (at_+1=n),ek,outs,at_+1,v⟩:=⟨_,rfl⟩
  have iD:Hid (Mo.ja ⟨on,true,ov,ek,outs,at_,v⟩ r=p'):=by unfold Hid;rw[HE.out,K1.out];rw[ai ah,ai (fun h=>h.elim h6.1 h6.2.1),ai h6.2.2,au (by first|rfl|trivial)];exact nA.symm
  have IP:Hid (p'.outs=outs):=by unfold Hid;rw[nA]
  have hG:GQ w w2.heap.size (w.heap.size+1+1) (w.heap.size+1+1+1) (.slice B n m) outs (kM p' ⟨B,m⟩).toArray (((w5.setCell ⟨w.heap.size+1+1+1,5,none⟩ (.int .i64 (at_+1))).setCell ⟨w.heap.size+1+1+1,2,none⟩ (.bool (at_+1==n))).alloc (iG q zA q.cases.length zc)):=by have h:=((G5.set 5 (.int .i64 (at_+1))).set 2 (.bool (at_+1==n))).alloc (iG q zA q.cases.length zc);rw[nA,kM];dsimp only;rw[<-HN.out];exact h
  generalize((w5.setCell ⟨w.heap.size+1+1+1,5,none⟩ (.int .i64 (at_+1))).setCell ⟨w.heap.size+1+1+1,2,none⟩ (.bool (at_+1==n))).alloc (iG q zA q.cases.length zc)=w6 at *
 case' inr.inr.inr.inr.inr.inl =>
  have Kn:(r.code==6)=false:=by rw[cq];exact h6.1
  have hx7:(r.code==11)=false:=by rw[cq];exact h6.2.1
  have hx8:(r.code==7)=false:=by rw[cq];exact h6.2.2
  have hat:=hat rfl;have he1:IntKind.i64.wrap (at_+1)=at_+1:=bK _ ae;have he2:IntKind.i64.wrap ((n:Int)+1)=(n:Int)+1:=bK _ ae;have nS:((n:Int)+1==0)=false:=by rw[cq];omega
  have OZ:(at_+1).tmod ((n:Int)+1)=(at_+1)%((n:Int)+1):=Int.tmod_eq_emod_of_nonneg ae;go_upto_region 21 with fail
  obtain⟨p',nA⟩:∃p':Mo.Pm,p'=⟨on,false,ov,ek,outs,(at_+1)%(n+1),v⟩:=⟨_,rfl⟩
  have iD:Hid (Mo.ja ⟨on,false,ov,ek,outs,at_,v⟩ r=p'):=by unfold Hid;rw[HE.out,K1.out];rw[ai ah,ai (fun h=>h.elim h6.1 h6.2.1),ai h6.2.2,ai ah,au h0];exact nA.symm
  have IP:Hid (p'.outs=outs):=by unfold Hid;rw[nA]
  have hG:GQ w w2.heap.size (w.heap.size+1+1) (w.heap.size+1+1+1) (.slice B n m) outs (kM p' ⟨B,m⟩).toArray ((w5.setCell ⟨w.heap.size+1+1+1,5,none⟩ (.int .i64 ((at_+1)%(n+1)))).alloc (iG q zA q.cases.length zc)):=by have h:=(G5.set 5 (.int .i64 ((at_+1)%(n+1)))).alloc (iG q zA q.cases.length zc);rw[nA,kM];dsimp only;rw[<-HN.out];exact h
  generalize(w5.setCell ⟨w.heap.size+1+1+1,5,none⟩ (.int .i64 ((at_+1)%(n+1)))).alloc (iG q zA q.cases.length zc)=w6 at *
 case' inr.inr.inr.inr.inr.inr.inl =>
  have Kn:(r.code==6)=false:=by rw[cq];exact h6.1
  have hx7:(r.code==11)=false:=by rw[cq];exact h6.2.1
  have hx8:(r.code==7)=false:=by rw[cq];exact h6.2.2
  have hat:=hat rfl;have he1:IntKind.i64.wrap (at_+1)=at_+1:=bK _ ae;have he2:IntKind.i64.wrap ((n:Int)+1)=(n:Int)+1:=bK _ ae;have nS:((n:Int)+1==0)=false:=by rw[cq];omega
  have OZ:(at_+1).tmod ((n:Int)+1)=(at_+1)%((n:Int)+1):=Int.tmod_eq_emod_of_nonneg ae;go_upto_region 21 with fail
  obtain⟨p',nA⟩:∃p':Mo.Pm,p'=⟨on,false,ov,ek,outs,1,r.value⟩:=⟨_,rfl⟩
  have iD:Hid (Mo.ja ⟨on,false,ov,ek,outs,at_,v⟩ r=p'):=by unfold Hid;rw[HE.out,K1.out];rw[ai ah,ai (fun h=>h.elim h6.1 h6.2.1),ai h6.2.2,ai ah,ai ae,au h1];exact nA.symm
  have IP:Hid (p'.outs=outs):=by unfold Hid;rw[nA]
  have hG:GQ w w2.heap.size (w.heap.size+1+1) (w.heap.size+1+1+1) (.slice B n m) outs (kM p' ⟨B,m⟩).toArray (((w5.setCell ⟨w.heap.size+1+1+1,6,none⟩ r.value).setCell ⟨w.heap.size+1+1+1,5,none⟩ (.int .i64 1)).alloc (iG q zA q.cases.length zc)):=by have h:=((G5.set 6 r.value).set 5 (.int .i64 1)).alloc (iG q zA q.cases.length zc);rw[nA,kM];dsimp only;rw[<-HN.out];exact h
  generalize((w5.setCell ⟨w.heap.size+1+1+1,6,none⟩ r.value).setCell ⟨w.heap.size+1+1+1,5,none⟩ (.int .i64 1)).alloc (iG q zA q.cases.length zc)=w6 at *
 case' inr.inr.inr.inr.inr.inr.inr =>
  have Kn:(r.code==6)=false:=by rw[cq];exact h6.1
  have hx7:(r.code==11)=false:=by rw[cq];exact h6.2.1
  have hx8:(r.code==7)=false:=by rw[cq];exact h6.2.2
  have hat:=hat rfl;have he1:IntKind.i64.wrap (at_+1)=at_+1:=bK _ ae;have he2:IntKind.i64.wrap ((n:Int)+1)=(n:Int)+1:=bK _ ae;have nS:((n:Int)+1==0)=false:=by rw[cq];omega
  have OZ:(at_+1).tmod ((n:Int)+1)=(at_+1)%((n:Int)+1):=Int.tmod_eq_emod_of_nonneg ae;have hx9:(r.code==0)=false:=by rw[cq];exact h1
  go_upto_region 21 with fail
  obtain⟨p',nA⟩:∃p':Mo.Pm,p'=⟨on,true,ov,ek,outs,at_,v⟩:=⟨_,rfl⟩
  have iD:Hid (Mo.ja ⟨on,false,ov,ek,outs,at_,v⟩ r=p'):=by unfold Hid;rw[HE.out,K1.out];rw[ai ah,ai (fun h=>h.elim h6.1 h6.2.1),ai h6.2.2,ai ah,ai ae,ai h1];exact nA.symm
  have IP:Hid (p'.outs=outs):=by unfold Hid;rw[nA]
  have hG:GQ w w2.heap.size (w.heap.size+1+1) (w.heap.size+1+1+1) (.slice B n m) outs (kM p' ⟨B,m⟩).toArray ((w5.setCell ⟨w.heap.size+1+1+1,1,none⟩ true).alloc (iG q zA q.cases.length zc)):=by have h:=(G5.set 1 true).alloc (iG q zA q.cases.length zc);rw[nA,kM];dsimp only;rw[<-HN.out];exact h
  generalize(w5.setCell ⟨w.heap.size+1+1+1,1,none⟩ true).alloc (iG q zA q.cases.length zc)=w6 at *
 all_goals
  clear aA aU jG hgr S1 U7 hgo nA G5 KV jd;have G6:=aa hG;clear hG;have S1:=fun i=>af.cell G6.o i;obtain⟨dh,cW,cY⟩:=af.aK G6.q;unfold kM at S1;go_wp2_with fail;have hl:=G6.l;have hQ:=aR (vs:=[p'.on,p'.shut,p'.over,p'.ek,.slice B p'.outs.length m,p'.at_,p'.value]) (cs:=[false,false,false,oZ,oN,oZ,oZ]) G6.q rfl;have h1:=bR (fun g' hg=>by have:=(aX G6.i hg).1;omega) [p'.on,p'.shut,p'.over,p'.ek,.slice B p'.outs.length m,p'.at_,p'.value] _ 0 _ G6.i (g:=w.heap.size+1+1);have hB:Below w w (av w6 (w.heap.size+1+1) 0 [p'.on,p'.shut,p'.over,p'.ek,.slice B p'.outs.length m,p'.at_,p'.value]):=aw ae _ _ _ G6.jE;change bodyPost _ _ _ _ _ (av w6 (w.heap.size+1+1) 0 [p'.on,p'.shut,p'.over,p'.ek,.slice B p'.outs.length m,p'.at_,p'.value]);clear S1 dh cW cY;generalize av w6 (w.heap.size+1+1) 0 [p'.on,p'.shut,p'.over,p'.ek,.slice B p'.outs.length m,p'.at_,p'.value]=wz at *;have eO:=fun i=>af.cell hQ i;refine bodyPost_ret (v:=.agg #[p'.on,p'.shut,p'.over,p'.ek,.slice B p'.outs.length m,p'.at_,p'.value]) (by simp[results,results76,go_sem,eO]) rfl ?_;rw[iD.out];refine⟨⟨B,m⟩,rfl,⟨⟨by rw[IP.out];exact(aL.pU h1).2,fun ad ha _=>?_⟩,by rw[IP.out, <-HN.out];exact HM.out⟩,hB⟩;dsimp only at ha;subst ha;have:=aX h1 (g:=ad.block) rfl;omega
end
def xp(x:Mo.Nt)(s:Sl):List Value:=[x.kind,x.th,x.seq,x.time,x.aQ.kind,x.aQ.arg,x.aQ.value,x.aQ.dflt,.slice s.A x.aQ.cases.length s.c,x.res.seq,x.res.cs,x.res.code,x.res.value]
def tnC(x:Mo.Tn)(s:Sl):List Value:=[x.time,x.th,.slice s.A x.ops.length s.c]
def PTk:qN Mo.Tk:=fun w S r x=>∃s,r=iu x s/\mF w S x s
def PPm:qN Mo.Pm:=fun w S r x=>∃s:Sl,r=kM x s/\cA w S .i64 s.A x.outs/\x.outs.length<=s.c
def Qa:qN Mo.Nt:=fun w S r x=>∃s:Sl,r=xp x s/\dv w S bk s.A x.aQ.cases
def Yd:qN Mo.Tn:=fun w S r x=>∃s:Sl,r=tnC x s/\pN w S s.A x.ops
theorem jT:Good PTk:=⟨fun h ⟨s,h1,h2⟩=>⟨s,h1,h2.move (fun _ _=>rfl) h⟩,fun h ⟨s,h1,h2⟩=>⟨s,h1,h2.move h fun _ h=>h⟩⟩
theorem lI:Good PPm:=⟨fun h ⟨s,h1,h2,h3⟩=>⟨s,h1,h2.mono h,h3⟩,fun h ⟨s,h1,h2,h3⟩=>⟨s,h1,h2.same h,h3⟩⟩
theorem eI:Good Qa:=⟨fun h ⟨s,h1,h2⟩=>⟨s,h1,h2.mono h⟩,fun h ⟨s,h1,h2⟩=>⟨s,h1,h2.same h⟩⟩
theorem gW:Good Yd:=⟨fun h ⟨s,h1,h2⟩=>⟨s,h1,h2.move (fun _ _=>rfl) h⟩,fun h ⟨s,h1,h2⟩=>⟨s,h1,h2.move h fun _ h=>h⟩⟩
structure Sx where
 (T P N V S M:Value)
 m:Mm
def Sx.X(s:Sx)(x0 b:Nat):Prop:=b=x0\/s.T.ownBlock=some b\/s.P.ownBlock=some b\/s.N.ownBlock=some b\/s.V.ownBlock=some b\/s.S.ownBlock=some b\/s.M.ownBlock=some b
def Sx.U(s:Sx)(x0 b:Nat):Prop:=s.X x0 b\/s.m.own b
def Sx.I(s:Sx)(w:World)(x0:Nat):Nat->Prop:=Iz w (s.X x0) s.m
def mG(A:Option Addr)(n k:Nat)(x:Mo.Mc)(s:Sx):Array Value:=#[x.c.kind,x.c.threads,x.c.chans,x.c.cap,x.c.nodes,x.c.aJ,x.c.aB,x.c.tags,x.c.bn,x.c.ba,.slice A n k,.pointer (some ⟨s.m.g,0,none⟩),s.T,s.P,s.N,s.V,s.S,s.M,x.time]
structure MS (w:World) (x0:Nat) (A:Option Addr) (n k q:Nat) (x:Mo.Mc) (s:Sx):Prop where
 blk:af w x0 101 (mG A n k x s)
 mem:xh w s.m x.L q
 T:aH 50 34 PTk w 0 (s.I w x0) s.T x.T
 P:aH 86 7 PPm w 0 (s.I w x0) s.P x.P
 N:aH 93 13 Qa w 0 (s.I w x0) s.N x.N
 V:aH 96 3 Yd w 0 (s.I w x0) s.V x.V
 S:aL w 0 3 .i64 s.S x.S
 M:aL w 0 3 .i64 s.M x.M
 mx:∀b,s.m.own b->¬s.X x0 b
 sm:∀b,s.S.ownBlock=some b->s.M.ownBlock≠some b
 cf:cA w (s.I w x0) .i64 A x.c.start
 hn:n=x.c.start.length
structure fB (w w':World) (U U':Nat->Prop):Prop where
 jE:Below 0 w w'
 same:∀b,b<w.heap.size->¬U b->w'.heap[b]?=w.heap[b]?
 own:∀b,U' b->U b\/w.heap.size<=b
theorem fB.refl(w:World)(U:Nat->Prop):fB w w U U:=⟨Below.refl _ _,fun _ _ _=>rfl,fun _ h=>.inl h⟩
theorem fB.trans{w2:World}{U U1 U2:Nat->Prop}(h:fB w w1 U U1)(k:fB w1 w2 U1 U2):fB w w2 U U2 :=
 have hs:=h.jE.size
 ⟨h.jE.trans k.jE,fun b hb hu=>(k.same b ae fun e=>(h.own b e).elim hu fun e=>by omega).trans (h.same b hb hu),fun b hb=>(k.own b hb).elim (h.own b) fun e=>.inr ae⟩
theorem fB.ext(hb:Below w w w')(U:Nat->Prop):fB w w' U U:=⟨hb.mono (aY _),fun _ h _=>hb.block _ h,fun _ h=>.inl h⟩
section
variable{w w':World} {x0:Nat} {A:Option Addr} {n k q:Nat} {x x':Mo.Mc} {s:Sx}
theorem MS.ul(H:MS w x0 A n k q x s)(hb:s.U x0 b):b<w.heap.size:=by
 rcases hb with(rfl|hb|hb|hb|hb|hb|hb)|hb
 ·exact H.blk.lt
 ·exact(aH.lt H.T hb).2
 ·exact(aH.lt H.P hb).2
 ·exact(aH.lt H.N hb).2
 ·exact(aH.lt H.V hb).2
 ·exact(aX H.S hb).2
 ·exact(aX H.M hb).2
 ·exact H.mem.lt hb
theorem et{c:Nat}{t:TypeId}{ys zs:Array Value}{f f':Nat×Nat}(h1:w.heap[b]?=some (.cells ys e f))(h2:w.heap[c]?=some (.cells zs t f'))(h:e≠t):b≠c:=fun h3=>by
 rw[h3,h2]at h1
 injection h1 with h1
 injection h1 with _ h4
 exact h h4.symm
structure Mv (w w':World) (x0:Nat) (s s':Sx) (D:Nat->Prop):Prop where
 jE:Below 0 w w'
 same:∀b,b<w.heap.size->¬D b->w'.heap[b]?=w.heap[b]?
 sub:∀b,D b->s.U x0 b
 own:∀b,s'.U x0 b->s.U x0 b\/w.heap.size<=b
section
variable{s':Sx} {D:Nat->Prop}
theorem Mv.mono(V:Mv w w' x0 s s' D):∀b,s.I w x0 b->s'.I w' x0 b:=fun b h =>
 have hn:¬s'.U x0 b:=fun e=>(V.own b e).elim (fun e=>e.elim h.2.2 h.2.1) fun e=>by have:=h.1;omega
 ⟨bF h.1 V.jE.size,fun e=>hn (.inr e),fun e=>hn (.inl e)⟩
theorem Mv.sm(V:Mv w w' x0 s s' D):Sm (s.I w x0) w w':=fun b h=>V.same b h.1 fun e=>(V.sub b e).elim h.2.2 h.2.1
theorem Mv.fr(V:Mv w w' x0 s s' D):fB w w' (s.U x0) (s'.U x0):=⟨V.jE,fun b h1 h2=>V.same b h1 fun e=>h2 (V.sub b e),V.own⟩
theorem Mv.rows(V:Mv w w' x0 s s' D){m:Nat}{P:qN α}(g:Good P)(h:aH e m P w 0 (s.I w x0) v xs)(hd:∀b,v.ownBlock=some b->¬D b):aH e m P w' 0 (s'.I w' x0) v xs:=(h.move g V.sm fun b hb=>V.same b (aH.lt h hb).2 (hd b hb)).mono g V.mono
theorem Mv.ints(V:Mv w w' x0 s s' D){kd:IntKind}{zs:List Int}(h:aL w 0 e kd v zs)(hd:∀b,v.ownBlock=some b->¬D b):aL w' 0 e kd v zs:=fj h fun b hb=>V.same b (aX h hb).2 (hd b hb)
theorem Mv.Av(V:Mv w w' x0 s s' D)(h:xh w s.m L q)(hd:∀b,s.m.own b->¬D b):xh w' s.m L q:=h.same fun b hb=>V.same b (h.lt hb) (hd b hb)
theorem Mv.cfg(V:Mv w w' x0 s s' D)(h:cA w (s.I w x0) .i64 A x.c.start):cA w' (s'.I w' x0) .i64 A x.c.start:=(h.same V.sm).mono V.mono
end
theorem aH.ty'{m:Nat}{P:qN α}{S:Nat->Prop}(h:aH e m P w 0 S v xs):∀b,v.ownBlock=some b->∃ys fr,w.heap[b]?=some (.cells ys e fr):=by obtain⟨rows,_,h2,_⟩:=h;exact dV h2
theorem MS.far(H:MS w x0 A n k q x s):(∀b,s.T.ownBlock=some b->b≠x0)/\(∀b,s.P.ownBlock=some b->b≠x0)/\(∀b,s.N.ownBlock=some b->b≠x0)/\(∀b,s.V.ownBlock=some b->b≠x0)/\(∀b,s.S.ownBlock=some b->b≠x0)/\(∀b,s.M.ownBlock=some b->b≠x0):=⟨fun b hb=>(aH.ty' H.T b hb).elim fun _ h=>h.elim fun _ h=>et h H.blk ah,fun b hb=>(aH.ty' H.P b hb).elim fun _ h=>h.elim fun _ h=>et h H.blk ah,fun b hb=>(aH.ty' H.N b hb).elim fun _ h=>h.elim fun _ h=>et h H.blk ah,fun b hb=>(aH.ty' H.V b hb).elim fun _ h=>h.elim fun _ h=>et h H.blk ah,fun b hb=>(dV H.S b hb).elim fun _ h=>h.elim fun _ h=>et h H.blk ah,fun b hb=>(dV H.M b hb).elim fun _ h=>h.elim fun _ h=>et h H.blk ah⟩
theorem MS.upd(H:MS w x0 A n k q x s)(hB:Below 0 w w')(hs:∀b,b<w.heap.size->b≠x0->w'.heap[b]?=w.heap[b]?){arr:Array Value}(hK:af w' x0 101 arr)(he:arr=mG A n k x' s)(hc:x'.c=x.c)(hL:x'.L=x.L)(hT:x'.T=x.T)(hP:x'.P=x.P)(hN:x'.N=x.N)(hV:x'.V=x.V)(hS:x'.S=x.S)(hM:x'.M=x.M):MS w' x0 A n k q x' s :=
 have V:Mv w w' x0 s s (·=x0):=⟨hB,hs,fun b h=>.inl (.inl h),fun b h=>.inl h⟩
 have F:=H.far
 {blk:=he▸hK
  mem:=hL▸V.Av H.mem fun b hb e=>H.mx b hb (.inl e)
  T:=hT▸V.rows jT H.T F.1
  P:=hP▸V.rows lI H.P F.2.1
  N:=hN▸V.rows eI H.N F.2.2.1
  V:=hV▸V.rows gW H.V F.2.2.2.1
  S:=hS▸V.ints H.S F.2.2.2.2.1
  M:=hM▸V.ints H.M F.2.2.2.2.2
  mx:=H.mx
  sm:=H.sm
  cf:=hc▸V.cfg H.cf
  hn:=hc▸H.hn}
theorem MS.more(H:MS w x0 A n k q x s)(hb:Below w w w'):MS w' x0 A n k q x s:=H.upd (hb.mono (aY _)) (fun b h _=>hb.block b h) (H.blk.ag hb) rfl rfl rfl rfl rfl rfl rfl rfl rfl
theorem MS.abZ(H:MS w x0 A n k q x s){g:Nat}(hv:s.T=.slice g j d)(ht:t<x.T.length)(y:Mo.Tk)(z:Sh)(hz:mF w (s.I w x0) y z):MS (av w g (t*34) (iu y z)) x0 A n k q {x with T:=x.T.set t y} s/\fB w (av w g (t*34) (iu y z)) (s.U x0) (s.U x0):=by
 have hx:s.X x0 g:=by unfold Sx.X;rw[hv];exact .inr (.inl rfl)
 have h1:=H.T;rw[hv]at h1;obtain⟨ys,hg,_⟩:=aH.ty h1;have V:Mv w (av w g (t*34) (iu y z)) x0 s s (·=g):=⟨aw (aY _) _ _ _ (Below.refl _ _),fun b _ h=>aM h _ _,fun b h=>.inl (h▸hx),fun b h=>.inl h⟩
 have h2:=(aH.Jf jT h1 ht (iu y z) rfl (List.all_eq_true.1 (by rfl)) (fun e=>e.2.2 hx) ⟨z,rfl,hz⟩).mono jT V.mono;have f:∀{e:TypeId} {v:Value} {b:Nat} (_:∃ys fr,w.heap[b]?=some (.cells ys e fr)),e≠50->b≠g:=fun h hne=>h.elim fun _ h=>h.elim fun _ h=>et h hg hne;refine⟨⟨aW H.blk (et H.blk hg ah) _ _,V.Av H.mem fun b hb e=>H.mx b hb (e▸hx),?_,?_,?_,?_,V.ints H.S fun b hb=>f (dV H.S b hb) ah (v:=s.S),V.ints H.M fun b hb=>f (dV H.M b hb) ah (v:=s.M),H.mx,H.sm,V.cfg H.cf,H.hn⟩,V.fr⟩
 ·exact hv▸h2
 ·exact V.rows lI H.P fun b hb=>f (aH.ty' H.P b hb) ah (v:=s.P)
 ·exact V.rows eI H.N fun b hb=>f (aH.ty' H.N b hb) ah (v:=s.N)
 ·exact V.rows gW H.V fun b hb=>f (aH.ty' H.V b hb) ah (v:=s.V)
theorem MS.Ye(H:MS w x0 A n k q x s){g:Nat}(hv:s.P=.slice g j d)(ht:t<x.P.length)(y:Mo.Pm)(z:Sl)(hz:cA w (s.I w x0) .i64 z.A y.outs/\y.outs.length<=z.c):MS (av w g (t*7) (kM y z)) x0 A n k q {x with P:=x.P.set t y} s/\fB w (av w g (t*7) (kM y z)) (s.U x0) (s.U x0):=by
 have hx:s.X x0 g:=by unfold Sx.X;rw[hv];exact .inr (.inr (.inl rfl))
 have h1:=H.P;rw[hv]at h1;obtain⟨ys,hg,_⟩:=aH.ty h1;have V:Mv w (av w g (t*7) (kM y z)) x0 s s (·=g):=⟨aw (aY _) _ _ _ (Below.refl _ _),fun b _ h=>aM h _ _,fun b h=>.inl (h▸hx),fun b h=>.inl h⟩
 have h2:=(aH.Jf lI h1 ht (kM y z) rfl (List.all_eq_true.1 (by rfl)) (fun e=>e.2.2 hx) ⟨z,rfl,hz.1,hz.2⟩).mono lI V.mono;have f:∀{e:TypeId} {v:Value} {b:Nat} (_:∃ys fr,w.heap[b]?=some (.cells ys e fr)),e≠86->b≠g:=fun h hne=>h.elim fun _ h=>h.elim fun _ h=>et h hg hne;refine⟨⟨aW H.blk (et H.blk hg ah) _ _,V.Av H.mem fun b hb e=>H.mx b hb (e▸hx),?_,?_,?_,?_,V.ints H.S fun b hb=>f (dV H.S b hb) ah (v:=s.S),V.ints H.M fun b hb=>f (dV H.M b hb) ah (v:=s.M),H.mx,H.sm,V.cfg H.cf,H.hn⟩,V.fr⟩
 ·exact V.rows jT H.T fun b hb=>f (aH.ty' H.T b hb) ah (v:=s.T)
 ·exact hv▸h2
 ·exact V.rows eI H.N fun b hb=>f (aH.ty' H.N b hb) ah (v:=s.N)
 ·exact V.rows gW H.V fun b hb=>f (aH.ty' H.V b hb) ah (v:=s.V)
theorem MS.ab0(H:MS w x0 A n k q x s){g:Nat}(hv:s.S=.slice g j d)(t:Nat)(z:Int):MS (w.setCell ⟨g,t,none⟩ z) x0 A n k q {x with S:=x.S.set t z} s/\fB w (w.setCell ⟨g,t,none⟩ z) (s.U x0) (s.U x0):=by
 have hx:s.X x0 g:=by unfold Sx.X;rw[hv];exact(.inr (.inr (.inr (.inr (.inr (.inl rfl))))))
 have h1:=H.S;obtain⟨ys,fr,hg⟩:=dV h1 g (by rw[hv];rfl);rw[hv]at h1;have V:Mv w (w.setCell ⟨g,t,none⟩ z) x0 s s (·=g):=⟨(Below.refl _ _).setCell (p:=⟨g,t,none⟩) (aY _) _,fun b _ h=>dp _ _ _ _ h,fun b h=>.inl (h▸hx),fun b h=>.inl h⟩
 have f:∀{e:TypeId} {b:Nat} (_:∃ys fr,w.heap[b]?=some (.cells ys e fr)),e≠3->b≠g:=fun h hne=>h.elim fun _ h=>h.elim fun _ h=>et h hg hne;have h2:=aL.stored h1 t z;exact⟨{blk:=(dp _ _ _ _ (et H.blk hg ah)).trans H.blk,mem:=V.Av H.mem fun b hb e=>H.mx b hb (e▸hx),T:=V.rows jT H.T fun b hb=>f (aH.ty' H.T b hb) ah,P:=V.rows lI H.P fun b hb=>f (aH.ty' H.P b hb) ah,N:=V.rows eI H.N fun b hb=>f (aH.ty' H.N b hb) ah,V:=V.rows gW H.V fun b hb=>f (aH.ty' H.V b hb) ah,S:=hv▸h2,M:=V.ints H.M fun b hb e=>H.sm g (by rw[hv];rfl) (e▸hb),mx:=H.mx,sm:=H.sm,cf:=V.cfg H.cf,hn:=H.hn},V.fr⟩
theorem MS.adq(H:MS w x0 A n k q x s){g:Nat}(hv:s.M=.slice g j d)(t:Nat)(z:Int):MS (w.setCell ⟨g,t,none⟩ z) x0 A n k q {x with M:=x.M.set t z} s/\fB w (w.setCell ⟨g,t,none⟩ z) (s.U x0) (s.U x0):=by
 have hx:s.X x0 g:=by unfold Sx.X;rw[hv];exact(.inr (.inr (.inr (.inr (.inr (.inr rfl))))))
 have h1:=H.M;obtain⟨ys,fr,hg⟩:=dV h1 g (by rw[hv];rfl);rw[hv]at h1;have V:Mv w (w.setCell ⟨g,t,none⟩ z) x0 s s (·=g):=⟨(Below.refl _ _).setCell (p:=⟨g,t,none⟩) (aY _) _,fun b _ h=>dp _ _ _ _ h,fun b h=>.inl (h▸hx),fun b h=>.inl h⟩
 have f:∀{e:TypeId} {b:Nat} (_:∃ys fr,w.heap[b]?=some (.cells ys e fr)),e≠3->b≠g:=fun h hne=>h.elim fun _ h=>h.elim fun _ h=>et h hg hne;have h2:=aL.stored h1 t z;exact⟨{blk:=(dp _ _ _ _ (et H.blk hg ah)).trans H.blk,mem:=V.Av H.mem fun b hb e=>H.mx b hb (e▸hx),T:=V.rows jT H.T fun b hb=>f (aH.ty' H.T b hb) ah,P:=V.rows lI H.P fun b hb=>f (aH.ty' H.P b hb) ah,N:=V.rows eI H.N fun b hb=>f (aH.ty' H.N b hb) ah,V:=V.rows gW H.V fun b hb=>f (aH.ty' H.V b hb) ah,M:=hv▸h2,S:=V.ints H.S fun b hb e=>H.sm b hb (by rw[e,hv];rfl),mx:=H.mx,sm:=H.sm,cf:=V.cfg H.cf,hn:=H.hn},V.fr⟩
theorem MS.adr(H:MS w x0 A n k q x s)(hB:Below 0 w w1)(hs:∀b,b<w.heap.size->s.N.ownBlock≠some b->w1.heap[b]?=w.heap[b]?){y:Mo.Nt}(hN:aH 93 13 Qa w1 0 (s.I w x0) v' (x.N++[y]))(hf:∀b,v'.ownBlock=some b->s.N.ownBlock=some b\/w.heap.size<=b):MS (w1.setCell ⟨x0,14,none⟩ v') x0 A n k q {x with N:=x.N++[y]} {s with N:=v'}/\fB w (w1.setCell ⟨x0,14,none⟩ v') (s.U x0) (Sx.U {s with N:=v'} x0):=by
 have hX:∀b,Sx.X {s with N:=v'} x0 b->s.X x0 b\/w.heap.size<=b:=by exact ab1
 have h0:af w1 x0 101 _:=(hs x0 H.blk.lt (fun e=>(H.far.2.2.1) x0 e rfl)).trans H.blk;have V:Mv w (w1.setCell ⟨x0,14,none⟩ v') x0 s {s with N:=v'} (fun b=>b=x0\/s.N.ownBlock=some b):=⟨hB.setCell (p:=⟨x0,14,none⟩) (aY _) _,fun b h1 h2=>(dp _ _ _ _ (fun e=>h2 (.inl e))).trans (hs b h1 fun e=>h2 (.inr e)),fun b h=>h.elim (fun h=>.inl (.inl h)) fun h=>.inl (.inr (.inr (.inr (.inl h)))),fun b h=>h.elim (fun h=>(hX b h).imp .inl id) fun h=>.inl (.inr h)⟩
 have hne:∀b,v'.ownBlock=some b->b≠x0:=fun b hb=>(aH.ty' hN b hb).elim fun _ h=>h.elim fun _ h=>et h h0 ah;have h3:aH 93 13 Qa (w1.setCell ⟨x0,14,none⟩ v') 0 (Sx.I {s with N:=v'} (w1.setCell ⟨x0,14,none⟩ v') x0) v' (x.N++[y]):=(hN.move eI (fun b h=>dp _ _ _ _ fun e=>h.2.2 (.inl e)) fun b hb=>dp _ _ _ _ (hne b hb)).mono eI V.mono
 exact⟨{blk:=h0.bb 14 v',mem:=V.Av H.mem fun b hb e=>H.mx b hb (e.elim (fun e=>.inl e) fun e=>(.inr (.inr (.inr (.inl e))))),N:=h3,T:=V.rows jT H.T fun b hb e=>e.elim (H.far.1 b hb) fun e=>(aH.ty' H.T b hb).elim fun _ h=>h.elim fun _ h=>(aH.ty' H.N b e).elim fun _ h'=>h'.elim fun _ h'=>et h h' ah rfl,P:=V.rows lI H.P fun b hb e=>e.elim (H.far.2.1 b hb) fun e=>(aH.ty' H.P b hb).elim fun _ h=>h.elim fun _ h=>(aH.ty' H.N b e).elim fun _ h'=>h'.elim fun _ h'=>et h h' ah rfl,V:=V.rows gW H.V fun b hb e=>e.elim (H.far.2.2.2.1 b hb) fun e=>(aH.ty' H.V b hb).elim fun _ h=>h.elim fun _ h=>(aH.ty' H.N b e).elim fun _ h'=>h'.elim fun _ h'=>et h h' ah rfl,S:=V.ints H.S fun b hb e=>e.elim (H.far.2.2.2.2.1 b hb) fun e=>(dV H.S b hb).elim fun _ h=>h.elim fun _ h=>(aH.ty' H.N b e).elim fun _ h'=>h'.elim fun _ h'=>et h h' ah rfl,M:=V.ints H.M fun b hb e=>e.elim (H.far.2.2.2.2.2 b hb) fun e=>(dV H.M b hb).elim fun _ h=>h.elim fun _ h=>(aH.ty' H.N b e).elim fun _ h'=>h'.elim fun _ h'=>et h h' ah rfl,mx:=fun b hb h=>(hX b h).elim (H.mx b hb) fun h=>by have:=H.mem.lt hb;omega,sm:=H.sm,cf:=V.cfg H.cf,hn:=H.hn},V.fr⟩
theorem MS.ads(H:MS w x0 A n k q x s)(hB:Below 0 w w1)(hs:∀b,b<w.heap.size->s.V.ownBlock≠some b->w1.heap[b]?=w.heap[b]?){y:Mo.Tn}(hN:aH 96 3 Yd w1 0 (s.I w x0) v' (x.V++[y]))(hf:∀b,v'.ownBlock=some b->s.V.ownBlock=some b\/w.heap.size<=b):MS (w1.setCell ⟨x0,15,none⟩ v') x0 A n k q {x with V:=x.V++[y]} {s with V:=v'}/\fB w (w1.setCell ⟨x0,15,none⟩ v') (s.U x0) (Sx.U {s with V:=v'} x0):=by
 have hX:∀b,Sx.X {s with V:=v'} x0 b->s.X x0 b\/w.heap.size<=b:=by
  rintro b (h|h|h|h|h|h|h)
  ·exact .inl (.inl h)
  ·exact .inl (.inr (.inl h))
  ·exact .inl (.inr (.inr (.inl h)))
  ·exact .inl (.inr (.inr (.inr (.inl h))))
  ·exact(hf b h).imp (fun h=>(.inr (.inr (.inr (.inr (.inl h)))))) id
  ·exact .inl (.inr (.inr (.inr (.inr (.inr (.inl h))))))
  ·exact .inl (.inr (.inr (.inr (.inr (.inr (.inr h))))))
 have h0:af w1 x0 101 _:=(hs x0 H.blk.lt (fun e=>(H.far.2.2.2.1) x0 e rfl)).trans H.blk;have V:Mv w (w1.setCell ⟨x0,15,none⟩ v') x0 s {s with V:=v'} (fun b=>b=x0\/s.V.ownBlock=some b):=⟨hB.setCell (p:=⟨x0,15,none⟩) (aY _) _,fun b h1 h2=>(dp _ _ _ _ (fun e=>h2 (.inl e))).trans (hs b h1 fun e=>h2 (.inr e)),fun b h=>h.elim (fun h=>.inl (.inl h)) fun h=>.inl (.inr (.inr (.inr (.inr (.inl h))))),fun b h=>h.elim (fun h=>(hX b h).imp .inl id) fun h=>.inl (.inr h)⟩
 have hne:∀b,v'.ownBlock=some b->b≠x0:=fun b hb=>(aH.ty' hN b hb).elim fun _ h=>h.elim fun _ h=>et h h0 ah;have h3:aH 96 3 Yd (w1.setCell ⟨x0,15,none⟩ v') 0 (Sx.I {s with V:=v'} (w1.setCell ⟨x0,15,none⟩ v') x0) v' (x.V++[y]):=(hN.move gW (fun b h=>dp _ _ _ _ fun e=>h.2.2 (.inl e)) fun b hb=>dp _ _ _ _ (hne b hb)).mono gW V.mono
 exact⟨{blk:=h0.bb 15 v',mem:=V.Av H.mem fun b hb e=>H.mx b hb (e.elim (fun e=>.inl e) fun e=>(.inr (.inr (.inr (.inr (.inl e)))))),V:=h3,T:=V.rows jT H.T fun b hb e=>e.elim (H.far.1 b hb) fun e=>(aH.ty' H.T b hb).elim fun _ h=>h.elim fun _ h=>(aH.ty' H.V b e).elim fun _ h'=>h'.elim fun _ h'=>et h h' ah rfl,P:=V.rows lI H.P fun b hb e=>e.elim (H.far.2.1 b hb) fun e=>(aH.ty' H.P b hb).elim fun _ h=>h.elim fun _ h=>(aH.ty' H.V b e).elim fun _ h'=>h'.elim fun _ h'=>et h h' ah rfl,N:=V.rows eI H.N fun b hb e=>e.elim (H.far.2.2.1 b hb) fun e=>(aH.ty' H.N b hb).elim fun _ h=>h.elim fun _ h=>(aH.ty' H.V b e).elim fun _ h'=>h'.elim fun _ h'=>et h h' ah rfl,S:=V.ints H.S fun b hb e=>e.elim (H.far.2.2.2.2.1 b hb) fun e=>(dV H.S b hb).elim fun _ h=>h.elim fun _ h=>(aH.ty' H.V b e).elim fun _ h'=>h'.elim fun _ h'=>et h h' ah rfl,M:=V.ints H.M fun b hb e=>e.elim (H.far.2.2.2.2.2 b hb) fun e=>(dV H.M b hb).elim fun _ h=>h.elim fun _ h=>(aH.ty' H.V b e).elim fun _ h'=>h'.elim fun _ h'=>et h h' ah rfl,mx:=fun b hb h=>(hX b h).elim (H.mx b hb) fun h=>by have:=H.mem.lt hb;omega,sm:=H.sm,cf:=V.cfg H.cf,hn:=H.hn},V.fr⟩
theorem MS.Hf(H:MS w x0 A n k q x s){p q':Nat}{m':Mm}(F:bV w w' p s.m m')(hp:w.heap.size<=p)(hM:xh w' m' L q'):MS w' x0 A n k q' {x with L:=L} {s with m:=m'}/\fB w w' (s.U x0) (Sx.U {s with m:=m'} x0):=by
 have V:Mv w w' x0 s {s with m:=m'} s.m.own:=⟨F.jE,fun b h1 h2=>F.same b h1 ae h2,fun b h=>.inr h,fun b h=>h.elim (fun h=>.inl (.inl h)) fun h=>(F.own b h).imp .inr id⟩
 have f:∀b,s.X x0 b->¬s.m.own b:=fun b h e=>H.mx b e h;refine⟨{blk:=?_,mem:=hM,T:=V.rows jT H.T fun b hb=>f b (.inr (.inl hb)),P:=V.rows lI H.P fun b hb=>f b (.inr (.inr (.inl hb))),N:=V.rows eI H.N fun b hb=>f b (.inr (.inr (.inr (.inl hb)))),V:=V.rows gW H.V fun b hb=>f b (.inr (.inr (.inr (.inr (.inl hb))))),S:=V.ints H.S fun b hb=>f b (.inr (.inr (.inr (.inr (.inr (.inl hb)))))),M:=V.ints H.M fun b hb=>f b (.inr (.inr (.inr (.inr (.inr (.inr hb)))))),mx:=fun b hb h=>(F.own b hb).elim (fun e=>H.mx b e h) fun e=>by have:=H.ul (.inl h);omega,sm:=H.sm,cf:=V.cfg H.cf,hn:=H.hn},V.fr⟩;have h:=(V.same x0 H.blk.lt (f x0 (.inl rfl))).trans H.blk;unfold mG at h ⊢;dsimp only;rw[F.g];exact h
end
section
variable{w:World} {x0:Nat} {A:Option Addr} {n k q:Nat} {x:Mo.Mc} {s:Sx}
theorem pR(H:MS w x0 A n k q x s):Calls prog 38 #[.pointer x0] w fun e w'=>e=.returned true/\w=w':=by have aT:=fun i=>af.cell H.blk i;unfold mG at aT;clear H;go_enter func38,ntmps38;go_wp2_with fail;go_ret;exact⟨rfl,rfl⟩
theorem zn(H:MS w x0 A n k q x s)(t:Int):Calls prog 42 #[.pointer x0,t] w fun e w'=>e=.returned (decide (0<=t/\t<x.T.length))/\w=w':=by
 have HM:=aa (pR H);obtain⟨B,d,hv⟩:=aH.shape H.T;have aT:=fun i=>af.cell H.blk i;unfold mG at aT;rw[hv]at aT;obtain⟨j,hj⟩:=aD x.T.length;rw[<-hj]at aT ⊢;have hgx:=H.blk.lt;clear H hv hj;by_cases h0:0<=t
 ·have hb0:decide (0<=t)=true:=dg h0;go_enter func42,ntmps42;go_wp2_with fail;refine HM.mono ?_;rintro e w' ⟨rfl,rfl⟩;go_wp2_with fail;go_ret;refine⟨?_,rfl⟩;simp[h0]
 ·have hb0:decide (0<=t)=false:=bJ h0;go_enter func42,ntmps42;go_wp2_with fail;refine HM.mono ?_;rintro e w' ⟨rfl,rfl⟩;go_wp2_with fail;go_ret;exact⟨congrArg (fun b=>Ending.returned (.bool b)) (bJ (fun h=>by omega)).symm,rfl⟩
end
section
variable(w:World)
theorem jh(q:Mo.Rq)(z:Sl)(hl:q.cases.length<=1000000)(hr:cN w bk z.A q.cases):Calls prog 60 #[.agg (ml q z).toArray] w fun e w'=>∃z',e=.returned (.agg (ml q z').toArray)/\rZ w w' q z'/\Below w.heap.size w w':=by
 obtain⟨A,d⟩:=z;have gu:=aa (fun wx (hb:Below w.heap.size w wx)=>o9 wx A d q.cases rfl hl (hr.below hb));unfold ml;dsimp only at *;clear hr;obtain⟨w2,hw2⟩:=aD ((w.alloc (iG q A q.cases.length d)).alloc VF);have bq:Hid (Below w.heap.size w w2):=by rw[hw2];exact ak (ak (aj w) _) _
 have xG:Hid (af w2 w.heap.size 42 ([q.kind,q.arg,q.value,q.dflt,.slice A q.cases.length d]:VL).toArray):=by rw[hw2];exact(af.new _ _ _).alloc _
 have gp:Hid (af w2 (w.heap.size+1) 42 ([oZ,oZ,oZ,false,oN]:VL).toArray):=by rw[hw2];exact af.newAt _ _ _ aF
 have qT:=aa hw2;clear hw2;go_enter func60,ntmps60;go_upto_region 1 with fail
 rw[<-qT.out];clear qT;obtain⟨aA,-,aU⟩:=af.aK xG;go_wp2_with fail;refine(gu _ bq).mono ?_;rintro e w3 ⟨B,m,rfl,hm,ho,hb3⟩;have KO:=aa (xG.ag hb3);have jc:=aa (gp.ag hb3);have bZ:=aa (ag bq hb3);have iP:=aa ho;have HM:=aa hm;have HL:=aa gp.lt;clear hb3 ho hm aA aU xG gp bq gu;obtain⟨aA,bh,aU⟩:=af.aK KO;obtain⟨dh,cW,cY⟩:=af.aK jc;go_wp2_with fail;have hl:=HL.out;have hf:∀g':Nat,g'<w2.heap.size->∀g,(Value.slice B q.cases.length m).ownBlock=some g->g≠g':=fun g' h g hg=>by have:=(aX iP hg).1;omega
 have h1:=bR (hf (w.heap.size+1) hl) ([q.kind,q.arg,q.value,q.dflt,.slice B q.cases.length m]:VL) _ 0 _ (bR (hf w.heap.size ae) [.slice B q.cases.length m] _ 4 _ iP);have hQ:=aR (vs:=([q.kind,q.arg,q.value,q.dflt,.slice B q.cases.length m]:VL)) (cs:=([oZ,oZ,oZ,false,oN]:VL)) (aW jc (show w.heap.size+1≠w.heap.size by omega) [.slice B q.cases.length m] 4) rfl;have hB:Below w w (av (av w3 w.heap.size 4 [.slice B q.cases.length m]) (w.heap.size+1) 0 ([q.kind,q.arg,q.value,q.dflt,.slice B q.cases.length m]:VL)):=aw (bU _) _ _ _ (aw (aS _) _ _ _ bZ);change bodyPost _ _ _ _ _ (av (av w3 w.heap.size 4 [.slice B q.cases.length m]) (w.heap.size+1) 0 ([q.kind,q.arg,q.value,q.dflt,.slice B q.cases.length m]:VL));clear dh cW cY aA bh aU;generalize av (av w3 w.heap.size 4 [.slice B q.cases.length m]) (w.heap.size+1) 0 ([q.kind,q.arg,q.value,q.dflt,.slice B q.cases.length m]:VL)=wz at *;have eO:=fun i=>af.cell hQ i;refine bodyPost_ret (v:=.agg (#[q.kind,q.arg,q.value,q.dflt,.slice B q.cases.length m]:VA)) (by simp[results,results60,go_sem,eO]) rfl ?_;refine⟨⟨B,m⟩,rfl,⟨⟨(aI.xO h1).2,fun ad ha _=>?_⟩,HM⟩,hB⟩;exact Vb
end
theorem af.qU{wx:World}{g:Nat}{t:TypeId}{cs:Array Value}(h:af w g t cs)(e:wx.heap[g]?=w.heap[g]?):af wx g t cs:=e.trans h
theorem ny{P:Program}{o:Oper}{K:Act->World->Prop}(hgd:o.guard=none)(s x:Operand)(t:TypeId)(ho:o.op=.call {callee:=.builtin .append,args:=#[s,x],argTypes:=#[t,t]})(e:TypeId)(m bytes:Nat)(z:Value){Pe:qN α}(g:Good Pe)(ht:P.underlying t=some (.slice e))(hi:(P.info? e).map (fun i=>(i.zero,i.size,i.bytes))=some (some z,m,bytes))(hzs:z.cells.size=m)(hm:0<m){S:Nat->Prop}(v:Value)(xs:List α)(hs:a.eval s=v)(hown:aH e m Pe w 0 S v xs)(hS:∀b,S b->b<w.heap.size/\v.ownBlock≠some b)(A:Option Addr)(c:Nat)(vs:List Value)(hl:vs.length=m)(h1:∀u∈vs,u.oneCell'=true)(hx:a.eval x=.slice A 1 c)(hr:Rd w A vs){y:α}(hy:Pe w S vs y)(hb:(xs.length+1)*bytes<=140737488355328)(hb1:xs.length<=1000000)(h:∀v' w',aH e m Pe w' 0 S v' (xs++[y])->w.grownBy w' v.ownBlock->(v'.ownBlock=v.ownBlock\/v'.ownBlock=some w.heap.size)->K (a.put o.dst v') w') :
 if Region.wanted o (yielded ops a.tmps)=true then Oper.wp P o a w K Q else E:=by
 obtain⟨rows,q1,q2,q3⟩:=hown
 refine kP hgd s x t ho 0 e m bytes z dR bQ fH ht hi hzs hm v rows hs q2 A 1 c [⟨vs,hl,h1⟩] hx rfl (by unfold cN;simpa[dR]using hr) (by rw[q1];exact hb) (by rw[q1];simp;omega) (aY _) ?_
 intro v' w' h2 h3 h4
 have hs':Sm S w w':=fun b hb=>h3.block b (hS b hb).1 fun e=>(hS b hb).2 e.symm
 exact h v' w' (aH.app g q1 q3 hs' h2 (g.same hs' hy)) h3 h4
section
variable{w:World} {x0:Nat} {A:Option Addr} {n k q:Nat} {x:Mo.Mc} {s:Sx}
def xJ(x0:Nat)(A:Option Addr)(n k q:Nat)(x':Mo.Mc)(w:World)(s:Sx)(w':World):Prop:=∃s',MS w' x0 A n k q x' s'/\fB w w' (s.U x0) (s'.U x0)
theorem MS.adt(h:s.I w x0 b):b<w.heap.size/\s.N.ownBlock≠some b:=⟨h.1,fun e=>h.2.2 (.inr (.inr (.inr (.inl e))))⟩
theorem MS.ab2(H:MS w x0 A n k q x s){y:Mo.Nt}(hN:aH 93 13 Qa w1 0 (s.I w x0) v' (x.N++[y]))(hg:w.grownBy w1 s.N.ownBlock)(hf:v'.ownBlock=s.N.ownBlock\/v'.ownBlock=some w.heap.size) :
 MS (w1.setCell ⟨x0,14,none⟩ v') x0 A n k q {x with N:=x.N++[y]} {s with N:=v'}/\fB w (w1.setCell ⟨x0,14,none⟩ v') (s.U x0) (Sx.U {s with N:=v'} x0):=by
 obtain⟨rows,q1,q2,q3⟩:=H.N
 exact H.adr (aI.br q2 (Below.refl 0 w) hg (aY _) (aS _)) (fun b hb hn=>hg.block b hb fun e=>hn e.symm) hN fun b hb=>hf.elim (fun e=>.inl (e▸hb)) fun e=>.inr (by rw[hb]at e;injection e with e;omega)
theorem MS.task(H:MS w x0 A n k q x s)(ht:t<x.T.length):∃g d z,s.T=.slice (some ⟨g,0,none⟩) x.T.length d/\g<w.heap.size/\s.X x0 g/\mF w (s.I w x0) (Mo.bu x t) z/\(∀i v,(iu (Mo.bu x t) z)[i]?=some v->w.cell? ⟨g,t*34+i,none⟩=some v)/\∀i,w.frozen? ⟨g,i,none⟩=false:=by obtain⟨g,d,hv,_,hg⟩:=aH.form H.T (by rintro e;rw[e]at ht;exact absurd ht (Nat.not_lt_zero _));have h1:=H.T;rw[hv]at h1;obtain⟨r,hP,hl,hc⟩:=aH.at_ h1 (Mo.lC ht);obtain⟨z,rfl,hz⟩:=hP;exact⟨g,d,z,hv,hg,.inr (.inl (by rw[hv];rfl)),hz,hc,fun i=>aH.ck h1 i⟩
def Vc(w1:World)(y:Mo.Nt)(s8:Value)(wx:World):Prop:=∃g z,s8=.pointer (some ⟨g,0,none⟩)/\w1.heap.size<=g/\af wx g 93 (xp y z).toArray/\dv wx (fun b=>w1.heap.size<=b/\b<wx.heap.size/\b≠g) bk z.A y.aQ.cases/\Ext w1 wx
theorem Hg(H:MS w x0 A n k q x s)(kd:Int)(t:Nat)(ht:t<x.T.length)(r:Mo.Rs)(hq:(Mo.bu x t).aQ.cases.length<=1000000)(hN:x.N.length<=1000000):Calls prog 75 #[.pointer x0,kd,t,.agg #[r.seq,r.cs,r.code,r.value]] w fun e w'=>e=.returned (.tuple #[])/\xJ x0 A n k q {x with N:=x.N++[⟨kd,t,(Mo.bu x t).seq,x.time,(Mo.bu x t).aQ,if kd=1 then Mo.dC else r⟩]} w s w':=by
 obtain⟨g,d,z,hv,hg,hgx,hz,hc,_⟩:=H.task ht;have pC:=aa (fun wx (hb:Below w w wx)=>jh wx (Mo.bu x t).aQ z.cs hq (hz.cs.1.below hb));obtain⟨K,hK⟩:=aD (Mo.bu x t);rw[<-hK]at pC hc ⊢;clear hK;obtain⟨yy,hyy⟩:∃yy:Mo.Nt,yy=⟨kd,t,K.seq,x.time,K.aQ,if kd=1 then Mo.dC else r⟩:=⟨_,rfl⟩
 rw[<-hyy];have HYY:=aa hyy;clear hyy;have h1:=hc 1 _ rfl;have h2:=hc 2 _ rfl;have h3:=hc 3 _ rfl;have h4:=hc 4 _ rfl;have h5:=hc 5 _ rfl;have h6:=hc 6 _ rfl;unfold ml at pC;obtain⟨j,hj⟩:=aD x.T.length;rw[<-hj]at hv ht;have bj:Hid (Below w w (w.alloc (pD r.seq r.cs r.code r.value))):=ak (aj w) _;have gI:Hid (af (w.alloc (pD r.seq r.cs r.code r.value)) w.heap.size 48 #[r.seq,r.cs,r.code,r.value]):=af.new _ _ _;have HC:=aa (fun(wx:World) (hb:Below w w wx) (a:Addr) (v:Value) (h:w.cell? a=some v)=>(Below.cell hb (bc h)).trans h);have HX:=aa (fun(wx:World) (hb:Below w w wx)=>H.more hb);have HL:Hid (w.heap.size<(w.alloc (pD r.seq r.cs r.code r.value)).heap.size):=by unfold Hid;simp
 have HV:=aa hv;have SA:=aa hN;clear hc hgx hz hj hN H hq;go_enter func75,ntmps75;go_wp2_with fail;generalize w.alloc (pD r.seq r.cs r.code r.value)=w1 at *;have aT:=fun wx (hx:Ext w1 wx) i=>af.cell (HX wx (ag bj hx.out)).blk i;unfold mG at aT;rw[HV.out]at aT;have HQX:=aa (fun wx (hx:Ext w1 wx)=>pC wx (ag bj hx.out));have a1:=fun wx (hx:Ext w1 wx)=>HC wx (ag bj hx.out) _ _ h1;have a2:=fun wx (hx:Ext w1 wx)=>HC wx (ag bj hx.out) _ _ h2;have a3:=fun wx (hx:Ext w1 wx)=>HC wx (ag bj hx.out) _ _ h3;have a4:=fun wx (hx:Ext w1 wx)=>HC wx (ag bj hx.out) _ _ h4;have a5:=fun wx (hx:Ext w1 wx)=>HC wx (ag bj hx.out) _ _ h5;have a6:=fun wx (hx:Ext w1 wx)=>HC wx (ag bj hx.out) _ _ h6;clear h1 h2 h3 h4 h5 h6 HC;go_cut[8] (fun s8 wx=>Vc w1 ⟨kd,t,K.seq,x.time,K.aQ,Mo.dC⟩ s8 wx);case first =>
  refine wp_region_held_drew (S:=(Ext w1)) (by kernel_rfl) (Ext.start _) (fun hHeld=>?_);refine aO 0 hHeld ?_;refine aO 1 hHeld ?_;refine aO 2 hHeld ?_;refine aO 3 hHeld ?_;refine aO 4 hHeld ?_;refine aO 5 hHeld ?_;refine aO 6 hHeld ?_;refine aO 7 hHeld ?_;refine aO 8 hHeld ?_;refine aO 9 hHeld ?_;refine aO 10 hHeld ?_;refine aO 11 hHeld ?_;refine aO 12 hHeld ?_;refine aO 13 hHeld ?_;refine aO 14 hHeld ?_;refine aO 15 hHeld ?_;refine aO 16 hHeld ?_;refine aO 17 hHeld ?_;refine aO 18 hHeld ?_;refine aO 19 hHeld ?_;refine aO 20 hHeld ?_;refine aO 21 hHeld ?_;(try simp only[aC]);refine wpAnyH_ready (rs:=[22,24]) (by kernel_rfl) aF ?_;refine(AllReadyH.cons (o:=⟨some 31,_,_,_,_,_⟩) rfl (fun K hK=>?_) (AllReadyH.cons (o:=⟨some 8,_,_,_,_,_⟩) rfl (fun K hK=>?_) AllReadyH.nil));go_simp;((with_reducible refine(HQX.out _ bE).mono ?_);rintro e w2 ⟨⟨zA,zc⟩,rfl,ho,hb2⟩;have uH:Ext w1 w2:=Ext.to bE hb2;(try have Da:=(af.jA (af.new w1 _ _)).ag hb2);(try have su:=fun i=>af.cell Da i);(try have hfn:=fun i=>af.free Da i);(try have Cp:=Da.lt));go_wp2_with fail;refine hK.out _ _ (xj) (fun hHeld=>?_);clear hK K;(try simp only[aC]);refine aO 23 hHeld ?_;(try simp only[aC]);refine dJ 24 (fun K hK=>?_);go_simp;refine hK.out _ _ (xj) (fun hHeld=>?_);clear hK K;(try simp only[aC]);refine dJ 25 (fun K hK=>?_);go_simp;refine hK.out _ _ (xj) (fun hHeld=>?_);clear hK K;(try simp only[aC]);refine wpAnyH_done (by kernel_rfl) ?_ _;rotate_left;go_simp;refine hK.out _ _ (xj) (fun hHeld=>?_);clear hK K;(try simp only[aC]);refine dJ 22 (fun K hK=>?_);go_simp;((with_reducible refine(HQX.out _ bE).mono ?_);rintro e w2 ⟨⟨zA,zc⟩,rfl,ho,hb2⟩;have uH:Ext w1 w2:=Ext.to bE hb2;(try have Da:=(af.jA (af.new w1 _ _)).ag hb2);(try have su:=fun i=>af.cell Da i);(try have hfn:=fun i=>af.free Da i);(try have Cp:=Da.lt));go_wp2_with fail;refine hK.out _ _ (xj) (fun hHeld=>?_);clear hK K;(try simp only[aC]);refine aO 23 hHeld ?_;(try simp only[aC]);refine dJ 25 (fun K hK=>?_);go_simp;refine hK.out _ _ (xj) (fun hHeld=>?_);clear hK K;(try simp only[aC]);refine wpAnyH_done (by kernel_rfl) ?_ _;rotate_left
  ·go_wp2_with fail;go_meet;have xC:af (w2.alloc (.cells (xp ⟨kd,t,K.seq,x.time,K.aQ,Mo.dC⟩ ⟨zA,zc⟩).toArray 93)) w2.heap.size 93 (xp ⟨kd,t,K.seq,x.time,K.aQ,Mo.dC⟩ ⟨zA,zc⟩).toArray:=af.new _ _ _;exact⟨_,⟨zA,zc⟩,rfl,uH.out.size,xC,(ho.1.same fun b hb=>(ak (aj w2) _).block b hb.2).mono fun b hb=>⟨hb.1,by simp;omega,by have:=hb.2;omega⟩,Ext.alloc uH _⟩
  ·clear su hfn Cp;go_wp2_with fail;have hQ:=aR (vs:=[kd,t,K.seq,x.time,K.aQ.kind,K.aQ.arg,K.aQ.value,K.aQ.dflt,.slice zA K.aQ.cases.length zc,oZ,oZ,oZ,oZ]) (cs:=[oZ,oZ,oZ,oZ,oZ,oZ,oZ,false,oN,oZ,oZ,oZ,oZ]) Da rfl;have vW:Ext w1 (av w2 w1.heap.size 0 [kd,t,K.seq,x.time,K.aQ.kind,K.aQ.arg,K.aQ.value,K.aQ.dflt,.slice zA K.aQ.cases.length zc,oZ,oZ,oZ,oZ]):=aw (aS _) _ _ _ uH.out;have GS:dv (av w2 w1.heap.size 0 [kd,t,K.seq,x.time,K.aQ.kind,K.aQ.arg,K.aQ.value,K.aQ.dflt,.slice zA K.aQ.cases.length zc,oZ,oZ,oZ,oZ]) (fun b=>w1.heap.size<=b/\b<(av w2 w1.heap.size 0 [kd,t,K.seq,x.time,K.aQ.kind,K.aQ.arg,K.aQ.value,K.aQ.dflt,.slice zA K.aQ.cases.length zc,oZ,oZ,oZ,oZ]).heap.size/\b≠w1.heap.size) bk zA K.aQ.cases:=(ho.1.same fun b hb=>aM (by have:=hb.1;simp at this;omega) _ 0).mono fun b hb=>⟨by have:=hb.1;simp at this;omega,by rw[bw];exact hb.2,by have:=hb.1;simp at this;omega⟩
   change Met _ _ (av w2 w1.heap.size 0 [kd,t,K.seq,x.time,K.aQ.kind,K.aQ.arg,K.aQ.value,K.aQ.dflt,.slice zA K.aQ.cases.length zc,oZ,oZ,oZ,oZ]);generalize av w2 w1.heap.size 0 [kd,t,K.seq,x.time,K.aQ.kind,K.aQ.arg,K.aQ.value,K.aQ.dflt,.slice zA K.aQ.cases.length zc,oZ,oZ,oZ,oZ]=w5 at *;go_meet;exact⟨_,⟨zA,zc⟩,rfl,aS _,hQ,GS,vW⟩
 case rest =>
  obtain⟨gn,⟨zA,zc⟩,rfl,Cp,O0,hRq,hXW⟩:=hcut;clear a1 a2 a3 a4 a5 a6 aT HQX pC HV hv;have hkr:=gI.ag hXW.out;have adu:=HL.out;have su:=fun i=>af.cell O0 i;have hfn:=fun i=>af.free O0 i;have xz:=O0.lt;obtain⟨jG,-,hlr⟩:=af.aK hkr;unfold xp at su;by_cases hk:kd=1;case' pos =>
   have hkb:(kd !=1)=false:=by rw[hk];rfl
   have HKD:=aa hk;clear hk;go_upto_region 4 with fail
   obtain⟨W,hW⟩:=aD wc;rw[<-hW];obtain⟨y,hy⟩:∃y:Mo.Nt,y=⟨kd,t,K.seq,x.time,K.aQ,Mo.dC⟩:=⟨_,rfl⟩
   have HBn:Hid (af W gn 93 (xp y ⟨zA,zc⟩).toArray):=by rw[hW,hy];exact O0
   have HYN:Hid (y=yy):=by unfold Hid;rw[HYY.out,au HKD.out,hy]
   have HQW:Hid (dv W (fun b=>w1.heap.size<=b/\b<W.heap.size/\b≠gn) bk zA y.aQ.cases):=by rw[hW,hy];exact hRq
   have HXw:Hid (Ext w1 W):=by rw[hW];exact hXW
  case' neg =>
   have hkb:(kd !=1)=true:=by simpa using hk
   have HKD:=aa hk;clear hk;go_upto_region 4 with fail
   change Code.wp _ _ _ _ (av wc gn 9 [r.seq,r.cs,r.code,r.value]);obtain⟨W,hW⟩:=aD (av wc gn 9 [r.seq,r.cs,r.code,r.value]);rw[<-hW];obtain⟨y,hy⟩:∃y:Mo.Nt,y=⟨kd,t,K.seq,x.time,K.aQ,r⟩:=⟨_,rfl⟩
   have HBn:Hid (af W gn 93 (xp y ⟨zA,zc⟩).toArray):=by rw[hW,hy];exact(((O0.bb 9 _).bb 10 _).bb 11 _).bb 12 _
   have HYN:Hid (y=yy):=by unfold Hid;rw[HYY.out,ai HKD.out,hy]
   have HQW:Hid (dv W (fun b=>w1.heap.size<=b/\b<W.heap.size/\b≠gn) bk zA y.aQ.cases):=by rw[hW,hy];exact(hRq.same fun b hb=>aM hb.2.2 _ 9).mono fun b hb=>⟨hb.1,by rw[bw];exact hb.2.1,hb.2.2⟩
   have HXw:Hid (Ext w1 W):=by rw[hW];exact aw Cp _ _ _ hXW
  all_goals
   clear su hfn xz jG hlr hkr hkb O0 hRq hXW hW hy HKD;have yg:gn<W.heap.size:=HBn.lt;have zo:Hid (MS (W.drew.alloc (.cells #[y.kind,y.th,y.seq,y.time,y.aQ.kind,y.aQ.arg,y.aQ.value,y.aQ.dflt,.slice zA y.aQ.cases.length zc,y.res.seq,y.res.cs,y.res.code,y.res.value] 93)) x0 A n k q x s):=HX.out _ (ak (ag bj HXw) _).drew;have Zb:=HX.out _ (ag bj HXw).drew;have hx1:W.drew.cell? ⟨x0,14,none⟩=some s.N:=Zb.blk.cell 14;have hx2:(W.drew.alloc (.cells #[y.kind,y.th,y.seq,y.time,y.aQ.kind,y.aQ.arg,y.aQ.value,y.aQ.dflt,.slice zA y.aQ.cases.length zc,y.res.seq,y.res.cs,y.res.code,y.res.value] 93)).cell? ⟨x0,14,none⟩=some s.N:=zo.blk.cell 14;have hx0:W.cell? ⟨x0,14,none⟩=some s.N:=hx1;have hlw:x0<W.heap.size:=Zb.blk.lt;have HU:Hid (∀b,s.U x0 b->b<w.heap.size):=fun b hb=>(HX w (aj w)).ul hb;have hgx:gn≠x0:=by have:=HU.out x0 (.inl (.inl rfl));omega
   have yb:Hid (∀b,w.heap.size<b->some b≠s.N.ownBlock):=fun b hb e=>by have:=HU.out b (.inl (.inr (.inr (.inr (.inl e.symm)))));omega
   have Vd:Hid (dv (W.drew.alloc (.cells #[y.kind,y.th,y.seq,y.time,y.aQ.kind,y.aQ.arg,y.aQ.value,y.aQ.dflt,.slice zA y.aQ.cases.length zc,y.res.seq,y.res.cs,y.res.code,y.res.value] 93)) (s.I (W.drew.alloc (.cells #[y.kind,y.th,y.seq,y.time,y.aQ.kind,y.aQ.arg,y.aQ.value,y.aQ.dflt,.slice zA y.aQ.cases.length zc,y.res.seq,y.res.cs,y.res.code,y.res.value] 93)) x0) bk zA y.aQ.cases):=(HQW.same fun b hb=>(ak (aj W) _).drew.block b hb.2.1).mono fun b hb=>⟨by simp;omega,fun e=>by have:=HU.out b (.inr e);omega,fun e=>by have:=HU.out b (.inl e);omega⟩
   have oW:Hid (Rd (W.drew.alloc (.cells #[y.kind,y.th,y.seq,y.time,y.aQ.kind,y.aQ.arg,y.aQ.value,y.aQ.dflt,.slice zA y.aQ.cases.length zc,y.res.seq,y.res.cs,y.res.code,y.res.value] 93)) W.heap.size (xp y ⟨zA,zc⟩)):=Rd.lit W (xp y ⟨zA,zc⟩) 93;have su:=fun(wx:World) (hx:wx.heap[gn]?=W.heap[gn]?) i=>af.cell (af.qU HBn hx) i;unfold xp at su;clear Zb;refine wp_region_held_drew (S:=fun wx:World=>wx.heap[gn]?=W.heap[gn]?) (by kernel_rfl) rfl (fun hHeld=>?_);refine aO 0 hHeld ?_;refine aO 1 hHeld ?_;refine aO 2 hHeld ?_;refine aO 3 hHeld ?_;refine aO 5 hHeld ?_;(try simp only[aC]);refine wpAnyH_ready (rs:=[4,6]) (by kernel_rfl) aF ?_;refine(AllReadyH.cons (o:=⟨some 41,_,_,_,_,_⟩) rfl (fun K hK=>?_) (AllReadyH.cons (o:=⟨some 43,_,_,_,_,_⟩) rfl (fun K hK=>?_) AllReadyH.nil));go_simp;refine hK.out _ _ (by first|assumption|exact(ak (aj W) _).drew.block gn yg) (fun hHeld=>?_);clear hK K;(try simp only[aC]);refine dJ 6 (fun K hK=>?_);go_simp;refine hK.out _ _ (by first|assumption|exact(ak (aj W) _).drew.block gn yg) (fun hHeld=>?_);clear hK K;(try simp only[aC]);rotate_left;go_simp;refine hK.out _ _ (by first|assumption|exact(ak (aj W) _).drew.block gn yg) (fun hHeld=>?_);clear hK K;(try simp only[aC]);refine dJ 4 (fun K hK=>?_);go_simp;refine hK.out _ _ (by first|assumption|exact(ak (aj W) _).drew.block gn yg) (fun hHeld=>?_);clear hK K;(try simp only[aC]);all_goals
    refine dJ 7 (fun K hK=>?_);refine ny rfl _ _ 76 rfl 93 13 120 _ eI underlying76 nK rfl ah _ x.N rfl zo.N (fun b h=>MS.adt h) _ _ (xp y ⟨zA,zc⟩) rfl (List.all_eq_true.1 (by rfl)) rfl oW ⟨⟨zA,zc⟩,rfl,Vd⟩ (by have:=SA.out;omega) SA ?_;intro v5 w5 kv sr di;obtain⟨B5,d5,xX⟩:=aH.shape kv;obtain⟨l5,jm⟩:=aD ((x.N++[y]).length);rw[<-jm]at xX;subst xX;clear jm;have Ko:w5.heap[gn]?=W.heap[gn]?:=(sr.block gn (by simp;omega) (yb gn ae)).trans ((ak (aj W) _).drew.block gn yg);have oc:af w5 x0 101 (mG A n k x s):=(sr.block x0 zo.blk.lt fun e=>zo.far.2.2.1 x0 e.symm rfl).trans zo.blk;obtain⟨FN,hf5,CE⟩:=af.aK oc;unfold mG at FN;have rL:=aa kv;have S3:=aa sr;have iW:=aa di;clear kv sr di oc;refine hK.out _ _ (by first|exact Ko) (fun hHeld=>?_);clear hK K;(try simp only[aC]);refine aO 8 hHeld ?_;refine aO 9 hHeld ?_;(try simp only[aC]);refine dJ 10 (fun K hK=>?_);go_simp;refine hK.out _ _ ((dp w5 ⟨x0,14,none⟩ _ gn hgx).trans Ko) (fun hHeld=>?_);clear hK K;(try simp only[aC]);refine wpAnyH_done (by kernel_rfl) ?_ _;clear hHeld;go_wp2_with fail;go_end0;obtain⟨hM,hF⟩:=MS.ab2 zo rL S3 iW;refine⟨rfl,_,?_,fB.trans (fB.ext (ak (ag bj HXw) _).drew (s.U x0)) hF⟩;rw[<-HYN.out];exact hM
end
theorem ldT{S:World->Prop}{md:Region.Mode}(i:Nat){d:Tmp}{x:Operand}{o2 o3 o4 o5}{fuel:Nat}{listed:Array Bool}(hS:S w)(b o:Nat)(T:List Value)(hT:T.length=34)(hs:∀wx,S wx->wx.rangeAt b o T)(h:wpAnyH prog md ops Q S fuel (listed.setIfInBounds i true) (a.put (some d) (.agg T.toArray)) w)(hi:ops[i]?=some ⟨some d,.load 50 x,o2,o3,o4,o5⟩:=by rfl)(hx:a.eval x=.pointer (some ⟨b,o,none⟩):=by rfl)(hb:(Region.noSelect ops && (Region.free md ops listed i && (Region.ready md ops listed).contains i))=true:=by kernel_rfl)(hw:Region.wanted ⟨some d,.load 50 x,o2,o3,o4,o5⟩ (yielded ops a.tmps)=true:=by rfl)(hQ:∀c a w,Q (.panic c) (a.put (some d) (.agg T.toArray)) w->Q (.panic c) a w:=by exact fun _ _ _ h=>h):wpAnyH prog md ops Q S (fuel+1) listed a w:=tkH hi hb hw hQ hS (fun wx h1=>qa 50 _ rfl b o hx T _ (hs wx h1) underlying50 rfl (by rw[hT];rfl)) h
theorem O1{K:Act->World->Prop}{o:Oper}{x y:Operand}(b i:Nat)(T:List Value)(hT:T.length=34)(h1:T.toArray.all (·.oneCell')=true)(ht:w.there b i 34)(h:K (a.put o.dst undef) (av w b i T))(hg:o.guard=none:=by rfl)(ho:o.op=.store 50 x y:=by rfl)(hx:a.eval x=.pointer (some ⟨b,i,none⟩):=by rfl)(hy:a.eval y=.agg T.toArray:=by rfl):if Region.wanted o (yielded ops a.tmps)=true then Oper.wp prog o a w K Q else E:=by
 have hw:Region.wanted o (yielded ops a.tmps)=true:=by simp[Region.wanted,hg]
 rw[au hw]
 refine wp_store_mid 50 x y ho b i T.toArray hx hy (by rw[jx,hT];exact ht) (by rw[jx,hT];rfl) h1 ?_
 rw[iR]
 exact h
theorem mF.begun{S:Nat->Prop}{x:Mo.Tk}{s:Sh}(h:mF w S x s){pc seq rnd:Int}{q:Mo.Rq}{z:Sl}(hq:dv w S bk z.A q.cases):mF w S {Mo.eX pc seq q x.az Mo.dC false with round:=rnd} (P8 z s):=⟨hq,cA.nil _ _ _ _,cA.nil _ _ _ _,cA.nil _ _ _ _,pN.nil _ _ _,cA.nil _ _ _ _,h.fr,h.ol,aY _,aY _,aY _,aY _,h.lr,h.lo⟩
def ab3(w1:World)(c:Mo.bH)(K:Mo.Tk)(z:Sh)(Q:Mo.Rq)(s7 s8:Value)(wx:World):Prop:=∃g z' T1,s7=.pointer (some ⟨g,0,none⟩)/\s8=.int .i64 (Mo.ee c K Q).2/\w1.heap.size<=g/\af wx g 50 T1.toArray/\T1=iu (Mo.ee c K Q).1 (if(Mo.ee c K Q).2=0 then P8 z' z else z)/\dv wx (fun b=>w1.heap.size<=b/\b<wx.heap.size) bk z'.A Q.cases/\Ext w1 wx
section
variable{w:World} {x0:Nat} {A:Option Addr} {n k q:Nat} {x:Mo.Mc} {s:Sx}
theorem Db(H:MS w x0 A n k q x s)(t:Nat)(ht:t<x.T.length)(Ha:x.S.length=x.T.length)(Q:Mo.Rq)(zq:Sl)(hq:cN w bk zq.A Q.cases)(hl:Q.cases.length<=1000000)(h0:0<=(Mo.bu x t).seq)(h1:(Mo.bu x t).seq<=1048575)(hN:x.N.length<=1000000) :
 Calls prog 78 #[.pointer (some ⟨x0,0,none⟩),.int .i64 t,.agg (ml Q zq).toArray] w fun e w'=>e=.returned (.int .i64 (Mo.cT x t Q).2)/\xJ x0 A n k q (Mo.cT x t Q).1 w s w':=by
 obtain⟨gT,dT,z,hv,hgT,hgx,hz,hc,hfT⟩:=H.task ht
 obtain⟨K,hK⟩:=aD (Mo.bu x t)
 have HKe:=aa hK
 rw[<-hK]at hz hc h0 h1
 obtain⟨w1,kI⟩:=aD (w.alloc (iG Q zq.A Q.cases.length zq.c))
 have bj:Hid (Below w.heap.size w w1):=by rw[kI];exact ak (aj w) _
 have gI:Hid (af w1 w.heap.size 42 (ml Q zq).toArray):=by rw[kI];exact af.new _ _ _
 have CF:Hid (w.heap.size<w1.heap.size):=by unfold Hid;rw[kI];simp
 have HX:=aa (fun(wx:World) (hb:Below w.heap.size w wx)=>H.more hb)
 have pC:=aa (fun wx (hx:Ext w1 wx)=>jh wx Q zq hl (hq.below (ag bj hx.out)))
 obtain⟨T0,tC⟩:=aD (iu K z)
 have Zp:Hid (T0.length=34):=by rw[tC];rfl
 have uZ:=aa (fun wx (z':Sl) (hx:Ext w1 wx) (h:cN wx bk z'.A Q.cases)=>(Kk (w:=wx) (c:=x.c) (A:=A) (n:=n) (k:=k) K z Q z' h hl h0 h1).mono (fun e w' h=>(⟨(iu (Mo.ee x.c K Q).1 (if(Mo.ee x.c K Q).2=0 then P8 z' z else z)),h.1,rfl,h.2⟩:∃T1:List Value,e=.returned (.tuple #[.agg T1.toArray,.int .i64 (Mo.ee x.c K Q).2])/\T1=iu (Mo.ee x.c K Q).1 (if(Mo.ee x.c K Q).2=0 then P8 z' z else z)/\Below wx.heap.size wx w')))
 have Qb:Hid (∀wx:World,Ext w1 wx->wx.rangeAt gT (t*34) T0):=fun wx hx j v hv=>(Below.cell (ag bj hx.out) (by rw[tC]at hv;exact bc (hc j v hv))).trans (hc j v (by rw[<-tC];exact hv))
 rw[<-tC]at uZ
 unfold ml mH at uZ
 unfold ml at pC
 (try dsimp only at uZ pC)
 obtain⟨er,her⟩:=aD ((Mo.ee x.c K Q).2)
 have Hh:=aa her
 have ng:=aa kI
 have HH:=aa H;have HZ:=aa hz;have HV:=aa hv;have HT:=aa ht;have HSL:=aa Ha;have SA:=aa hN;have HQL:=aa hl
 obtain⟨j,hj⟩:=aD x.T.length
 have Zq:=gI.out
 unfold ml at Zq
 have aT:=fun wx (hx:Ext w1 wx) i=>af.cell (HX wx (ag bj hx.out)).blk i
 unfold mG at aT
 rw[hv, <-hj]at aT
 rw[<-hj]at ht
 have jG:=fun wx (hx:Ext w1 wx) i=>af.cell (Zq.ag hx.out) i
 unfold ml
 rw[<-her]at uZ
 clear hK kI hc hz hv H hq hl h0 h1 hN Ha tC her hj hgx Zq
 go_enter func78,ntmps78
 go_wp2_with fail
 rw[<-ng.out]
 clear ng
 go_cut[7,8] (fun s7 s8 wx=>ab3 w1 x.c K z Q s7 s8 wx)
 case first =>
  refine wp_region_held_drew (S:=(Ext w1)) (by kernel_rfl) (Ext.start _) (fun hHeld=>?_);refine aO 0 hHeld ?_;refine aO 1 hHeld ?_;refine aO 2 hHeld ?_;refine aO 3 hHeld ?_;refine aO 4 hHeld ?_;refine aO 5 hHeld ?_;refine aO 6 hHeld ?_;refine aO 7 hHeld ?_;refine aO 8 hHeld ?_;refine aO 9 hHeld ?_;(try simp only[aC]);refine ldT 10 hHeld gT (t*34) T0 Zp Qb ?_;refine aO 11 hHeld ?_;(try simp only[aC]);refine wpAnyH_ready (rs:=[12,17]) (by kernel_rfl) aF ?_;refine(AllReadyH.cons (o:=⟨some 22,_,_,_,_,_⟩) rfl (fun K hK=>?_) (AllReadyH.cons (o:=⟨some 7,_,_,_,_,_⟩) rfl (fun K hK=>?_) AllReadyH.nil))
  ·go_simp;((with_reducible refine(pC.out _ bE).mono ?_);rintro e wA ⟨⟨zA,zc⟩,rfl,Qc,bN⟩;have kC:Ext w1 wA:=Ext.to bE bN);go_wp2_with fail;refine hK.out _ _ xj (fun hHeld=>?_);clear hK K;(try simp only[aC]);refine wpAnyH_ready (rs:=[13,17]) (by kernel_rfl) aF ?_;refine(AllReadyH.cons (o:=⟨some 23,_,_,_,_,_⟩) rfl (fun K hK=>?_) (AllReadyH.cons (o:=⟨some 7,_,_,_,_,_⟩) rfl (fun K hK=>?_) AllReadyH.nil))
   ·go_simp;((with_reducible refine(uZ.out _ ⟨zA,zc⟩ bE ?hq).mono ?_);(case hq=>first|exact Qc.1.1|exact Qc.1.1.below (ak (aj _) _));rintro e wB ⟨T1,rfl,kY,dE⟩;have gw:=aa kY;clear kY;have lK:Ext w1 wB:=Ext.to bE dE);go_wp2_with fail;refine hK.out _ _ xj (fun hHeld=>?_);clear hK K;(try simp only[aC]);refine aO 14 hHeld ?_;refine aO 15 hHeld ?_;refine aO 16 hHeld ?_;(try simp only[aC]);refine dJ 17 (fun K hK=>?_);go_simp;refine hK.out _ _ xj (fun hHeld=>?_);clear hK K;(try simp only[aC]);have Np:af (wB.alloc (.cells zT.toArray 50)) wB.heap.size 50 zT.toArray:=af.new _ _ _;refine dJ 18 (fun K hK=>?_);refine O1 wB.heap.size 0 T1 (by rw[gw.out];rfl) (by rw[gw.out];exact dW _ _) (af.there Np 0 34 ah) ?_;have C4:Ext w1 (av (wB.alloc (.cells zT.toArray 50)) wB.heap.size 0 T1):=aw lK.out.size _ _ _ (Ext.alloc lK _);have hQ7:=aR (vs:=T1) (cs:=zT) Np (by rw[gw.out];rfl);have CH:dv (av (wB.alloc (.cells zT.toArray 50)) wB.heap.size 0 T1) (fun b=>w1.heap.size<=b/\b<(av (wB.alloc (.cells zT.toArray 50)) wB.heap.size 0 T1).heap.size) bk zA Q.cases:=(Qc.1.same fun b hb=>(aM (by have:=hb.2;have:=dE.size;omega) _ 0).trans (((ak (aj wB) _).block b (by have:=hb.2;have:=dE.size;omega)).trans (dE.block b hb.2))).mono fun b hb=>⟨hb.1,by rw[bw];have:=hb.2;have:=dE.size;simp;omega⟩
    refine hK.out _ _ C4 (fun hHeld=>?_);clear hK K;(try simp only[aC]);refine aO 19 hHeld ?_;(try simp only[aC]);refine wpAnyH_done (by kernel_rfl) ?_ _;clear hHeld;skip;go_wp2_with fail;go_meet;exact⟨wB.heap.size,⟨zA,zc⟩,T1,rfl,by rw[Hh.out],lK.out.size,hQ7,by rw[<-Hh.out];exact gw.out,CH,C4⟩
   ·go_simp;refine hK.out _ _ xj (fun hHeld=>?_);clear hK K;(try simp only[aC]);refine dJ 13 (fun K hK=>?_);go_simp;((with_reducible refine(uZ.out _ ⟨zA,zc⟩ bE ?hq).mono ?_);(case hq=>first|exact Qc.1.1|exact Qc.1.1.below (ak (aj _) _));rintro e wB ⟨T1,rfl,kY,dE⟩;have gw:=aa kY;clear kY;have lK:Ext w1 wB:=Ext.to bE dE);go_wp2_with fail;refine hK.out _ _ xj (fun hHeld=>?_);clear hK K;(try simp only[aC]);refine aO 14 hHeld ?_;refine aO 15 hHeld ?_;refine aO 16 hHeld ?_;(try simp only[aC]);have Np:af wB wA.heap.size 50 zT.toArray:=(af.new wA _ _).ag dE;refine dJ 18 (fun K hK=>?_);refine O1 wA.heap.size 0 T1 (by rw[gw.out];rfl) (by rw[gw.out];exact dW _ _) (af.there Np 0 34 ah) ?_;have C4:Ext w1 (av wB wA.heap.size 0 T1):=aw kC.out.size _ _ _ lK;have hQ7:=aR (vs:=T1) (cs:=zT) Np (by rw[gw.out];rfl);have CH:dv (av wB wA.heap.size 0 T1) (fun b=>w1.heap.size<=b/\b<(av wB wA.heap.size 0 T1).heap.size) bk zA Q.cases:=(Qc.1.same fun b hb=>(aM (by have:=hb.2;omega) _ 0).trans ((dE.block b (by have:=hb.2;simp;omega)).trans ((ak (aj wA) _).block b hb.2))).mono fun b hb=>⟨hb.1,by rw[bw];have:=hb.2;have:=dE.size;simp at this;omega⟩
    refine hK.out _ _ C4 (fun hHeld=>?_);clear hK K;(try simp only[aC]);refine aO 19 hHeld ?_;(try simp only[aC]);refine wpAnyH_done (by kernel_rfl) ?_ _;clear hHeld;generalize av wB wA.heap.size 0 T1=w5 at *;go_wp2_with fail;go_meet;exact⟨wA.heap.size,⟨zA,zc⟩,T1,rfl,by rw[Hh.out],kC.out.size,hQ7,by rw[<-Hh.out];exact gw.out,CH,C4⟩
  ·go_simp;refine hK.out _ _ xj (fun hHeld=>?_);clear hK K;(try simp only[aC]);refine dJ 12 (fun K hK=>?_);go_simp;((with_reducible refine(pC.out _ bE).mono ?_);rintro e wA ⟨⟨zA,zc⟩,rfl,Qc,bN⟩;have kC:Ext w1 wA:=Ext.to bE bN);go_wp2_with fail;refine hK.out _ _ xj (fun hHeld=>?_);clear hK K;(try simp only[aC]);refine dJ 13 (fun K hK=>?_);go_simp;((with_reducible refine(uZ.out _ ⟨zA,zc⟩ bE ?hq).mono ?_);(case hq=>first|exact Qc.1.1|exact Qc.1.1.below (ak (aj _) _));rintro e wB ⟨T1,rfl,kY,dE⟩;have gw:=aa kY;clear kY;have lK:Ext w1 wB:=Ext.to bE dE);go_wp2_with fail;refine hK.out _ _ xj (fun hHeld=>?_);clear hK K;(try simp only[aC]);refine aO 14 hHeld ?_;refine aO 15 hHeld ?_;refine aO 16 hHeld ?_;(try simp only[aC]);have Np:af wB w1.heap.size 50 zT.toArray:=((af.jA (af.new w1 _ _)).ag bN).ag dE;refine dJ 18 (fun K hK=>?_);refine O1 w1.heap.size 0 T1 (by rw[gw.out];rfl) (by rw[gw.out];exact dW _ _) (af.there Np 0 34 ah) ?_;have C4:Ext w1 (av wB w1.heap.size 0 T1):=aw (aS _) _ _ _ lK;have hQ7:=aR (vs:=T1) (cs:=zT) Np (by rw[gw.out];rfl);have CH:dv (av wB w1.heap.size 0 T1) (fun b=>w1.heap.size<=b/\b<(av wB w1.heap.size 0 T1).heap.size) bk zA Q.cases:=(Qc.1.same fun b hb=>(aM (by have:=hb.1;simp at this;omega) _ 0).trans (dE.block b hb.2)).mono fun b hb=>⟨by have:=hb.1;simp at this;omega,by rw[bw];have:=hb.2;have:=dE.size;omega⟩
   refine hK.out _ _ C4 (fun hHeld=>?_);clear hK K;(try simp only[aC]);refine aO 19 hHeld ?_;(try simp only[aC]);refine wpAnyH_done (by kernel_rfl) ?_ _;clear hHeld;generalize av wB w1.heap.size 0 T1=w5 at *;go_wp2_with fail;go_meet;exact⟨w1.heap.size,⟨zA,zc⟩,T1,rfl,by rw[Hh.out],(aS _),hQ7,by rw[<-Hh.out];exact gw.out,CH,C4⟩
 case rest =>
  obtain⟨g7,⟨zA,zc⟩,T1,rfl,hs8,hg7,hB7,kY,CH,C4⟩:=hcut;rw[<-Hh.out]at hs8 kY;subst hs8;clear aT jG pC uZ Qb Zp;have Cm:=aa C4;have PS:=aa hB7;have gw:=aa kY;have xZ:=aa CH;have HG7:=aa hg7;have HMc:=aa (HX wc (ag bj C4.out));clear C4 kY CH hg7 hB7;by_cases he:er=0;rotate_left
  ·have HE:=aa he;have d1:(er !=0)=true:=by simpa using he
   clear he;go_wp2_with fail;go_ret;have hM:Mo.cT x t Q=(x,er):=by unfold Mo.cT;dsimp only;rw[<-HKe.out, <-Hh.out,au HE.out]
   rw[hM];exact⟨rfl,s,HMc,fB.ext (ag bj Cm) _⟩
  have HE:=aa he;have d1:(er !=0)=false:=by rw[he];rfl
  obtain⟨y,hy⟩:=aD ((Mo.ee x.c K Q).1);have HY:Hid (y={Mo.eX 1 (K.seq+1) Q K.az Mo.dC false with round:=1}):=by
   have h:=Hh.symm.trans HE;unfold Hid;rw[hy];unfold Mo.ee at h ⊢;split
   ·rename_i h1;rw[au h1]at h;cases h
   ·rename_i h1;rw[ai h1]at h;split
    ·rename_i h2;rw[au h2]at h;cases h
    ·rename_i h2;rw[ai h2]at h;split
     ·rename_i h3;rw[au h3]at h;cases h
     ·rfl
  have yf:Hid (T1=iu y (P8 ⟨zA,zc⟩ z)):=by unfold Hid;rw[gw.out,au HE.out,hy]
  have HYE:=aa hy;have hU:∀b,s.U x0 b->b<w.heap.size:=fun b hb=>HH.ul hb;have adv:=hgT;have hx0:x0<w.heap.size:=HH.blk.lt;have adw:w.heap.size<g7:=bF CF HG7;have Ve:x0≠gT:=fun e=>HH.far.1 gT (by rw[HV.out];rfl) e.symm;have Zr:Hid (MS wc.drew x0 A n k q x s):=HMc.more (aj wc).drew;have HTh:Hid (wc.drew.there gT (t*34) 34):=by
   obtain⟨g',d',z',hv',_,_,_,hc',hf'⟩:=Zr.task HT;have h1:=hv'.symm.trans HV;injection h1 with h1
   injection h1 with h1
   injection h1 with h1
   subst h1;exact fun j hj=>⟨by rw[hc' j _ (cD (show j<(iu (Mo.bu x t) z').length from hj))];rfl,hf' _⟩
  have MO:Hid (mF wc.drew (s.I wc.drew x0) y (P8 ⟨zA,zc⟩ z)):=by
   unfold Hid;rw[HY.out];have hb:=(ag bj Cm).drew;refine mF.begun ((HZ.move (fun b hb'=>hb.block b hb'.1) fun b hb'=>⟨bF hb'.1 hb.size,hb'.2⟩):mF wc.drew (s.I wc.drew x0) K z) ((show dv wc.drew (fun b=>w1.heap.size<=b/\b<wc.heap.size) bk zA Q.cases from xZ.out).mono fun b hb'=>⟨hb'.2,fun e=>?_,fun e=>?_⟩)
   ·have:=hU b (.inr e);have:=CF.out;omega
   ·have:=hU b (.inl e);have:=CF.out;omega
  have KQ:=HT.out;clear he hy hU adv hfT;go_upto_region 4 with fail
  have aT:=fun(wx:World) (hx:wx.heap[x0]?=wc.heap[x0]?/\wx.heap[g7]?=wc.heap[g7]?) i=>af.cell (af.qU HMc.blk hx.1) i;unfold mG at aT;rw[HV.out]at aT;have Ut:∀wx:World,(wx.heap[x0]?=wc.heap[x0]?/\wx.heap[g7]?=wc.heap[g7]?)->wx.rangeAt g7 0 T1:=fun wx hx=>af.range (af.qU PS hx.2) T1 fun j v hv=>by rw[List.getElem?_toArray];exact hv
  refine wp_region_held_drew (S:=fun wx:World=>wx.heap[x0]?=wc.heap[x0]?/\wx.heap[g7]?=wc.heap[g7]?) (by kernel_rfl) ⟨rfl,rfl⟩ (fun hHeld=>?_);refine aO 0 hHeld ?_;refine aO 1 hHeld ?_;refine aO 2 hHeld ?_;refine aO 3 hHeld ?_;refine aO 4 hHeld ?_;(try simp only[aC]);refine ldT 5 hHeld g7 0 T1 (by rw[yf.out];rfl) Ut ?_;refine aO 6 hHeld ?_;(try simp only[aC]);refine dJ 7 (fun K hK=>?_);refine O1 gT (t*34) T1 (by rw[yf.out];rfl) (by rw[yf.out];exact dW _ _) HTh ?_;refine hK.out _ _ ⟨aM Ve _ _,aM ae _ _⟩ (fun hHeld=>?_);clear hK K;(try simp only[aC]);refine wpAnyH_done (by kernel_rfl) ?_ _;clear hHeld aT Ut;obtain⟨S4,DC⟩:=MS.abZ Zr HV HT y (P8 ⟨zA,zc⟩ z) MO;rw[<-yf.out]at S4 DC;have C8:=aa S4;have KU:=aa DC;clear S4 DC HTh MO Ve hx0 adw;generalize av wc.drew gT (t*34) T1=w6 at *;have Am:t<x.S.length:=by rw[HSL.out];exact KQ
  obtain⟨gS,dS,Qd,_,hgS⟩:=aL.form C8.S (by intro e;dsimp only at e;rw[e]at Am;exact absurd Am (Nat.not_lt_zero _));dsimp only at Qd;have Hi:=C8.S;rw[Qd]at Hi;have Vf:=aL.cell Hi (cD Am);have hfS:=fun i=>aL.frozen Hi i;obtain⟨u7,-,hl6⟩:=af.aK C8.blk;unfold mG at u7;dsimp only at u7;rw[Qd]at u7;have Yf:=aa Qd;clear Hi Qd;obtain⟨ln,xz⟩:=aD x.S.length;rw[<-xz]at u7 Am;generalize x.S[t]=sv at Vf;clear xz;go_upto_region 6 with fail
  clear u7 Vf hfS hl6 hgS Am;obtain⟨Yg,S5⟩:=MS.ab0 C8 Yf t 0;have Ar:=aa Yg;have uX:=aa S5;clear Yg S5;generalize w6.setCell ⟨gS,t,none⟩ (.int .i64 0)=w7 at *;have Br:Mo.bu {x with T:=x.T.set t y,S:=x.S.set t 0} t=y:=by unfold Mo.bu;rw[eR,List.getElem?_set_self KQ];rfl
  have hn:=Hg Ar 1 t (by rw[cK];exact KQ) Mo.dC (by rw[Br,HY.out];exact HQL.out) SA;rw[Br]at hn;have HNT:Hid (Calls prog 75 #[.pointer (some ⟨x0,0,none⟩),.int .i64 1,.int .i64 t,.agg #[.int .i64 0,.int .i64 0,.int .i64 0,.int .i64 0]] w7 _):=hn;clear hn Br KQ;go_wp2_with fail;refine HNT.mono ?_;rintro e w8 ⟨rfl,hE8⟩;have HE8:=aa hE8;clear hE8 HNT;go_wp2_with fail;go_ret;have hM:Mo.cT x t Q=({x with T:=x.T.set t y,S:=x.S.set t 0,N:=x.N++[⟨1,t,y.seq,x.time,y.aQ,Mo.dC⟩]},0):=by unfold Mo.cT;dsimp only;rw[<-HKe.out, <-Hh.out,ai (by rw[HE.out];decide), <-HYE.out]
  rw[hM,HE.out];obtain⟨s',hs',hF'⟩:=HE8.out;exact⟨rfl,s',hs',fB.trans (fB.trans (fB.trans (fB.ext (ag bj Cm).drew _) KU) uX) hF'⟩
end
section
variable{w:World} {x0:Nat} {A:Option Addr} {n k q:Nat} {x:Mo.Mc} {s:Sx}
theorem Mo.O2(h:t<x.P.length):x.P[t]?=some (Mo.gG x t):=by unfold Mo.gG;rw[eR,cD h];rfl
theorem MS.FP(H:MS w x0 A n k q x s)(ht:t<x.P.length):∃g d,∃z:Sl,s.P=.slice (some ⟨g,0,none⟩) x.P.length d/\g<w.heap.size/\s.X x0 g/\cA w (s.I w x0) .i64 z.A (Mo.gG x t).outs/\(Mo.gG x t).outs.length<=z.c/\(∀i v,(kM (Mo.gG x t) z)[i]?=some v->w.cell? ⟨g,t*7+i,none⟩=some v)/\∀i,w.frozen? ⟨g,i,none⟩=false:=by obtain⟨g,d,hv,_,hg⟩:=aH.form H.P (by rintro e;rw[e]at ht;exact absurd ht (Nat.not_lt_zero _));have h1:=H.P;rw[hv]at h1;obtain⟨r,hP,hl,hc⟩:=aH.at_ h1 (Mo.O2 ht);obtain⟨z,rfl,hz,hz2⟩:=hP;exact⟨g,d,z,hv,hg,.inr (.inr (.inl (by rw[hv];rfl))),hz,hz2,hc,fun i=>aH.ck h1 i⟩
theorem xJ.at_{x':Mo.Mc}(h:xJ x0 A n k q x' w s w'):∃s',MS w' x0 A n k q x' s'/\fB w w' (s.U x0) (s'.U x0):=h
theorem xJ.more(H:MS w x0 A n k q x s)(hb:Below w w w'):xJ x0 A n k q x w s w':=⟨s,H.more hb,fB.ext hb _⟩
theorem FQ{p:Mo.Pm}{Q:Mo.Rq}(h:Mo.fw p=some Q):Q.cases.length<=1000000:=by
 unfold Mo.fw at h;repeat' split at h
 all_goals first
  |(cases h;done)
  |(injection h with h;subst h;first|exact aY _|(show(1:Nat)<=1000000;decide))
theorem S6(H:MS w x0 A n k q x s)(t:Nat)(ht:t<x.T.length)(K2:x.P.length=x.T.length)(Ha:x.S.length=x.T.length)(Vg:(Mo.gG x t).outs.length<=8)(h0:0<=(Mo.bu x t).seq)(h1:(Mo.bu x t).seq<=1048575)(hN:x.N.length<=1000000) :
 Calls prog 73 #[.pointer x0,t] w fun e w'=>e=.returned (.tuple #[])/\xJ x0 A n k q (Mo.ea x t) w s w':=by
 have S7:t<x.P.length:=by rw[K2];exact ht
 obtain⟨gT,dT,z,hv,hgT,_,_,hc,_⟩:=H.task ht
 obtain⟨gP,dP,zp,Hj,hgP,_,hzp,hzl,hcP,hfP⟩:=H.FP S7
 obtain⟨p,hp⟩:=aD (Mo.gG x t)
 obtain⟨pc,bM⟩:=aD ((Mo.bu x t).pc)
 have HPE:=aa hp;have Ap:=aa bM
 rw[<-hp]at hzp hzl hcP Vg
 have qQ:=aa (qI w p zp hzp.1 Vg hzl)
 obtain⟨o,ho⟩:=aD (Mo.fw p)
 rw[<-ho]at qQ
 have HOE:=aa ho
 unfold PmE kM ml at qQ
 have c0:=hcP 0 _ rfl
 rw[Nat.add_zero]at c0
 have c1:=hcP 1 _ rfl
 have c2:=hcP 2 _ rfl
 have c3:=hcP 3 _ rfl
 have c4:=hcP 4 _ rfl
 have c5:=hcP 5 _ rfl
 have c6:=hcP 6 _ rfl
 have HTC:=aa (fun(wx:World) (hb:Below w w wx)=>(show wx.cell? ⟨gT,t*34,none⟩=some (.int .i64 pc)from(Below.cell hb (bc (hc 0 _ rfl))).trans (by rw[bM];exact hc 0 _ rfl)))
 have HX:=aa (fun(wx:World) (hb:Below w w wx)=>H.more hb)
 have O3:=aa (fun(wx:World) (hb:Below w w wx) (Q:Mo.Rq) (zq:Sl) (hq:cN wx bk zq.A Q.cases) (hl:Q.cases.length<=1000000)=>Db (H.more hb) t ht Ha Q zq hq hl h0 h1 hN)
 have HV:=aa hv;have O4:=aa Hj;have HT:=aa ht;have FE:=aa S7;have HP8:=aa Vg
 obtain⟨aT,-,hlx⟩:=af.aK H.blk
 unfold mG at aT
 rw[hv,Hj]at aT
 obtain⟨lt,hlt⟩:∃l,l=x.T.length:=⟨_,rfl⟩
 obtain⟨lp,hlp⟩:∃l,l=x.P.length:=⟨_,rfl⟩
 rw[<-hlt, <-hlp]at aT
 rw[<-hlt]at ht
 rw[<-hlp]at S7
 clear hp bM hc hcP hv Hj hzp hzl Vg ho H hN h0 h1 Ha K2 hfP hlt hlp
 go_enter func73,ntmps73
 go_wp2_with fail
 refine qQ.mono ?_
 rintro e w2 ⟨zq,rfl,O5,hb2⟩
 have bq:=aa hb2;have gp:=aa O5
 clear hb2 O5 qQ c0 c1 c2 c3 c4 c5 c6 aT hlx
 rcases o with _|Q
 ·clear HTC O3;go_wp2_with fail;refine bodyPost_ret (v:=.tuple #[]) (by simp[results,results73,go_sem]) rfl ?_;have hM:Mo.ea x t=x:=by unfold Mo.ea;rw[<-HPE.out, <-HOE.out]
  rw[hM];exact⟨rfl,xJ.more (HX w (aj w)) (ak bq _)⟩
 ·have bZ:=aa (ak bq (iG Q zq.A Q.cases.length zq.c));have K3:=aa (HX _ bZ);obtain⟨aT,-,hlx⟩:=af.aK K3.blk;unfold mG at aT;rw[HV.out,O4.out]at aT;have r8:=HTC.out _ bZ;dsimp only[Option.getD_some]at gp;obtain⟨w3,hw3⟩:=aD (w2.alloc (iG Q zq.A Q.cases.length zq.c));have KP:=aa hw3;have qE:Hid (af w3 w2.heap.size 42 (ml Q zq).toArray):=by rw[hw3];exact af.new _ _ _
  have pC:Hid (cN w3 bk zq.A Q.cases):=by rw[hw3];exact gp.1.1.below (ak (aj w2) _)
  rw[<-hw3]at bZ K3 aT hlx r8;obtain⟨jG,-,hlr⟩:=af.aK qE;unfold ml at jG;have KQ:=HT.out;clear hw3;go_upto_region 1 with fail
  rw[<-KP.out];by_cases nz:pc=0;rotate_left
  ·have d1:(pc !=0)=true:=by simpa using nz
   have HPZ:=aa nz;clear nz;go_wp2_with fail;refine bodyPost_ret (v:=.tuple #[]) (by simp[results,results73,go_sem]) rfl ?_;have hM:Mo.ea x t=x:=by unfold Mo.ea;rw[<-HPE.out, <-HOE.out];dsimp only;rw[<-Ap.out,au HPZ.out]
   rw[hM];exact⟨rfl,xJ.more (HX w (aj w)) bZ⟩
  have d1:(pc !=0)=false:=by rw[nz];rfl
  have HPZ:=aa nz;have uZ:=aa (O3 w3 bZ Q zq pC (FQ HOE.symm));have Vh:Hid (Mo.ea x t=if(Mo.cT x t Q).2≠0 then{x with P:=x.P.set t (Mo.ja p (Mo.bD 7))}else(Mo.cT x t Q).1):=by unfold Hid Mo.ea;rw[<-HPE.out, <-HOE.out];dsimp only;rw[<-Ap.out,ai (fun e=>e nz)]
  obtain⟨er,her⟩:=aD ((Mo.cT x t Q).2);have Hh:=aa her;rw[<-her]at uZ Vh;unfold ml at uZ;clear her nz;go_wp2_with fail;refine uZ.mono ?_;rintro e w5 ⟨rfl,hE⟩;have Xx:=aa hE;clear hE aT hlx jG hlr r8 uZ O3 HTC pC gp qE KP d1;by_cases he:er=0
  ·have d1:(er !=0)=false:=by rw[he];rfl
   have HE:=aa he;clear he;go_wp2_with fail;go_end0;rw[Vh.out,ai (fun e=>e HE.out)];obtain⟨s',h1,h2⟩:=Xx.out;exact⟨rfl,s',h1,fB.trans (fB.ext bZ _) h2⟩
  have d1:(er !=0)=true:=by simpa using he
  have HE:=aa he;clear he;obtain⟨s5,hs5,Hb⟩:=Xx.out;have hx1:(Mo.cT x t Q).1=x:=by have h:=HE.out;rw[Hh.out]at h;exact Vi
  rw[hx1]at hs5;have oG:=aa (fB.trans (fB.ext bZ _) Hb);clear Hb Xx hx1;obtain⟨gQ,dQ,zr,Kp,hgQ,_,Vj,hzl,hcQ,hfQ⟩:=hs5.FP FE;rw[<-HPE.out]at Vj hzl hcQ;have Zs:=aa (zl w5.drew p zr (Mo.bD 7) (Vj.1.below (aj w5).drew) HP8 hzl);obtain⟨p',nA⟩:=aD (Mo.ja p (Mo.bD 7));rw[<-nA]at Zs Vh;unfold kM Mo.bD at Zs;(try dsimp only at Zs);have c0:=hcQ 0 _ rfl;rw[Nat.add_zero]at c0;have c1:=hcQ 1 _ rfl;have c2:=hcQ 2 _ rfl;have c3:=hcQ 3 _ rfl;have c4:=hcQ 4 _ rfl;have c5:=hcQ 5 _ rfl;have c6:=hcQ 6 _ rfl;have oC:=aa hs5;have Yh:=aa Kp;have Vk:x0≠gQ:=fun e=>hs5.far.2.1 gQ (by rw[Kp];rfl) e.symm;have hlx:=hs5.blk.lt;have X2:=FE.out;clear hs5 Kp nA hcQ Vj hzl hfQ;go_upto_region 3 with fail
  have aT:=fun(wx:World) (hx:wx.heap[x0]?=w5.heap[x0]?) i=>af.cell (af.qU oC.blk hx) i;unfold mG at aT;rw[Yh.out]at aT;refine wp_region_held_drew (S:=fun wx:World=>wx.heap[x0]?=w5.heap[x0]?) (by kernel_rfl) rfl (fun hHeld=>?_);refine aO 0 hHeld ?_;refine aO 1 hHeld ?_;refine aO 2 hHeld ?_;refine aO 3 hHeld ?_;refine aO 4 hHeld ?_;refine aO 5 hHeld ?_;refine aO 6 hHeld ?_;refine aO 7 hHeld ?_;refine aO 8 hHeld ?_;refine aO 9 hHeld ?_;refine aO 10 hHeld ?_;refine aO 12 hHeld ?_;(try simp only[aC]);refine dJ 11 (fun K hK=>?_);go_simp;refine hK.out _ _ bE (fun hHeld=>?_);clear hK K;(try simp only[aC]);refine dJ 13 (fun K hK=>?_);go_simp;refine Zs.mono ?_;rintro e w6 ⟨zg,rfl,Vl,fO⟩;have C8:=aa (oC.more (ag (aj w5).drew fO));have Bc:=aa Vl;have e0:=(Below.cell fO (bc c0)).trans c0;have e1:=(Below.cell fO (bc c1)).trans c1;have e2:=(Below.cell fO (bc c2)).trans c2;have e3:=(Below.cell fO (bc c3)).trans c3;have e4:=(Below.cell fO (bc c4)).trans c4;have e5:=(Below.cell fO (bc c5)).trans c5;have e6:=(Below.cell fO (bc c6)).trans c6;have JW:=C8.P;rw[Yh.out]at JW;have Hk:=fun i=>aH.ck JW i;have Zt:w6.heap[x0]?=w5.heap[x0]?:=fO.block x0 hlx;have wT:=aa fO;clear c0 c1 c2 c3 c4 c5 c6 Vl fO JW;go_wp2_with fail;refine hK.out _ _ Zt (fun hHeld=>?_);clear hK K;(try simp only[aC]);refine aO 14 hHeld ?_;(try simp only[aC]);refine dJ 15 (fun K hK=>?_);go_simp;refine hK.out _ _ ((aM Vk (kM p' zg) (t*7)).trans Zt) (fun hHeld=>?_);clear hK K;(try simp only[aC]);refine wpAnyH_done (by kernel_rfl) ?_ _;clear hHeld;have hU:=fun b hb=>oC.ul (b:=b) hb;obtain⟨hM,hF⟩:=MS.Ye C8 Yh FE p' zg ⟨Bc.1.mono fun b hb=>⟨hb.2,fun e=>Nat.lt_irrefl _ (bF (hU b (.inr e)) hb.1),fun e=>Nat.lt_irrefl _ (bF (hU b (.inl e)) hb.1)⟩,Bc.2⟩;unfold kM at hM hF;have Ar:=aa hM;have uX:=aa hF;clear hM hF e0 e1 e2 e3 e4 e5 e6 Hk aT hU;go_wp2_with fail;go_end0;rw[Vh.out,au HE.out];exact⟨rfl,_,Ar,fB.trans (fB.trans oG (fB.ext (ag (aj w5).drew wT) _)) uX⟩
end
section
variable{w:World} {x0:Nat} {A:Option Addr} {n k q:Nat} {x:Mo.Mc} {s:Sx}
theorem MS.adx(H:MS w x0 A n k q x s){N':List Mo.Nt}(hB:Below 0 w w1)(hs:∀b,b<w.heap.size->b≠x0->s.N.ownBlock≠some b->w1.heap[b]?=w.heap[b]?)(hk:af w1 x0 101 (mG A n k {x with N:=N'} {s with N:=v'}))(hN:aH 93 13 Qa w1 0 (Sx.I {s with N:=v'} w1 x0) v' N')(hf:∀b,v'.ownBlock=some b->s.N.ownBlock=some b\/w.heap.size<=b):MS w1 x0 A n k q {x with N:=N'} {s with N:=v'}/\fB w w1 (s.U x0) (Sx.U {s with N:=v'} x0):=by
 have hX:∀b,Sx.X {s with N:=v'} x0 b->s.X x0 b\/w.heap.size<=b:=by exact ab1
 have V:Mv w w1 x0 s {s with N:=v'} (fun b=>b=x0\/s.N.ownBlock=some b):=⟨hB,fun b h1 h2=>hs b h1 (fun e=>h2 (.inl e)) fun e=>h2 (.inr e),fun b h=>h.elim (fun h=>.inl (.inl h)) fun h=>.inl (.inr (.inr (.inr (.inl h)))),fun b h=>h.elim (fun h=>(hX b h).imp .inl id) fun h=>.inl (.inr h)⟩
 exact⟨{blk:=hk,mem:=V.Av H.mem fun b hb e=>H.mx b hb (e.elim (fun e=>.inl e) fun e=>(.inr (.inr (.inr (.inl e))))),N:=hN,T:=V.rows jT H.T fun b hb e=>e.elim (H.far.1 b hb) fun e=>(aH.ty' H.T b hb).elim fun _ h=>h.elim fun _ h=>(aH.ty' H.N b e).elim fun _ h'=>h'.elim fun _ h'=>et h h' ah rfl,P:=V.rows lI H.P fun b hb e=>e.elim (H.far.2.1 b hb) fun e=>(aH.ty' H.P b hb).elim fun _ h=>h.elim fun _ h=>(aH.ty' H.N b e).elim fun _ h'=>h'.elim fun _ h'=>et h h' ah rfl,V:=V.rows gW H.V fun b hb e=>e.elim (H.far.2.2.2.1 b hb) fun e=>(aH.ty' H.V b hb).elim fun _ h=>h.elim fun _ h=>(aH.ty' H.N b e).elim fun _ h'=>h'.elim fun _ h'=>et h h' ah rfl,S:=V.ints H.S fun b hb e=>e.elim (H.far.2.2.2.2.1 b hb) fun e=>(dV H.S b hb).elim fun _ h=>h.elim fun _ h=>(aH.ty' H.N b e).elim fun _ h'=>h'.elim fun _ h'=>et h h' ah rfl,M:=V.ints H.M fun b hb e=>e.elim (H.far.2.2.2.2.2 b hb) fun e=>(dV H.M b hb).elim fun _ h=>h.elim fun _ h=>(aH.ty' H.N b e).elim fun _ h'=>h'.elim fun _ h'=>et h h' ah rfl,mx:=fun b hb h=>(hX b h).elim (H.mx b hb) fun h=>by have:=H.mem.lt hb;omega,sm:=H.sm,cf:=V.cfg H.cf,hn:=H.hn},V.fr⟩
structure NS (w4:World) (x0 gn:Nat) (A:Option Addr) (n k:Nat) (x:Mo.Mc) (s:Sx) (SS:Nat->Prop) (zA:Option Addr) (cs:List Mo.Cs) (v:Value) (N':List Mo.Nt) (W:World):Prop where
 kx:af W x0 101 (mG A n k x {s with N:=v})
 ow:aH 93 13 Qa W 0 SS v N'
 lt:∀b,SS b->b<W.heap.size/\v.ownBlock≠some b/\b≠x0/\b≠gn
 gx:v.ownBlock≠some gn/\v.ownBlock≠some x0/\gn≠x0
 jE:Below 0 w4 W
 eq:∀b,b<w4.heap.size->b≠x0->s.N.ownBlock≠some b->W.heap[b]?=w4.heap[b]?
 own:∀b,v.ownBlock=some b->s.N.ownBlock=some b\/w4.heap.size<=b
 g:w4.heap.size<=gn/\gn<W.heap.size
 q:dv W SS bk zA cs
section
variable{w4 W:World} {gn:Nat} {SS:Nat->Prop} {zA:Option Addr} {cs:List Mo.Cs} {v:Value} {N':List Mo.Nt}
theorem NS.more(h:NS w4 x0 gn A n k x s SS zA cs v N' W){W':World}(hb:Below W W W'):NS w4 x0 gn A n k x s SS zA cs v N' W':=⟨h.kx.ag hb,h.ow.move eI (fun b hb'=>hb.block b (h.lt b hb').1) fun b hb'=>hb.block b (aH.lt h.ow hb').2,fun b hb'=>⟨bF (h.lt b hb').1 hb.size,(h.lt b hb').2⟩,h.gx,h.jE.trans (hb.mono (aY _)),fun b h1 h2 h3=>(hb.block b (bF h1 h.jE.size)).trans (h.eq b h1 h2 h3),h.own,⟨h.g.1,bF h.g.2 hb.size⟩,h.q.same fun b hb'=>hb.block b (h.lt b hb').1⟩
theorem NS.O6(h:NS w4 x0 gn A n k x s SS zA cs v N' W)(i:Nat)(u:Value):NS w4 x0 gn A n k x s SS zA cs v N' (W.setCell ⟨gn,i,none⟩ u) :=
 have e:∀b,b≠gn->(W.setCell ⟨gn,i,none⟩ u).heap[b]?=W.heap[b]?:=fun b hb=>dp _ _ _ _ hb
 have hz:(W.setCell ⟨gn,i,none⟩ u).heap.size=W.heap.size:=aF
 ⟨(e x0 fun e=>h.gx.2.2 e.symm).trans h.kx,h.ow.move eI (fun b hb=>e b (h.lt b hb).2.2.2) fun b hb=>e b fun e=>h.gx.1 (e▸hb),fun b hb=>⟨by rw[hz];exact(h.lt b hb).1,(h.lt b hb).2⟩,h.gx,h.jE.setCell (p:=⟨gn,i,none⟩) (aY _) u,fun b h1 h2 h3=>(e b (Nat.ne_of_lt (bF h1 h.g.1))).trans (h.eq b h1 h2 h3),h.own,⟨h.g.1,by rw[hz];exact h.g.2⟩,h.q.same fun b hb=>e b (h.lt b hb).2.2.2⟩
theorem NS.app(h:NS w4 x0 gn A n k x s SS zA cs v N' W){W5:World}{y:Mo.Nt}(hO:aH 93 13 Qa W5 0 SS v' (N'++[y]))(hg:W.grownBy W5 v.ownBlock)(hf:v'.ownBlock=v.ownBlock\/v'.ownBlock=some W.heap.size):NS w4 x0 gn A n k x s SS zA cs v' (N'++[y]) (W5.setCell ⟨x0,14,none⟩ v'):=by
 obtain⟨rows,_,q2,_⟩:=h.ow;have hB:Below 0 W W5:=aI.br q2 (Below.refl 0 W) hg (aY _) (aS _);have e:∀b,b≠x0->(W5.setCell ⟨x0,14,none⟩ v').heap[b]?=W5.heap[b]?:=fun b hb=>dp _ _ _ _ hb;have hz:(W5.setCell ⟨x0,14,none⟩ v').heap.size=W5.heap.size:=aF;have h1:∀b,b<W.heap.size->v.ownBlock≠some b->W5.heap[b]?=W.heap[b]?:=fun b hb hn=>hg.block b hb fun e=>hn e.symm;have hv:∀b,b<W.heap.size->v.ownBlock≠some b->v'.ownBlock≠some b:=fun b hb hn e=>hf.elim (fun f=>hn (f▸e)) fun f=>by rw[f]at e;injection e with e;omega
 have hx:=h.kx.lt;exact⟨af.bb ((h1 x0 hx h.gx.2.1).trans h.kx) 14 v',hO.move eI (fun b hb=>e b (h.lt b hb).2.2.1) fun b hb=>e b fun f=>hv x0 hx h.gx.2.1 (f▸hb),fun b hb=>⟨by rw[hz];exact bF (h.lt b hb).1 hB.size,hv b (h.lt b hb).1 (h.lt b hb).2.1,(h.lt b hb).2.2⟩,⟨hv gn h.g.2 h.gx.1,hv x0 hx h.gx.2.1,h.gx.2.2⟩,(h.jE.trans hB).setCell (p:=⟨x0,14,none⟩) (aY _) v',fun b b1 b2 b3=>(e b b2).trans ((h1 b (bF b1 h.jE.size) fun f=>(h.own b f).elim b3 fun f=>Nat.lt_irrefl _ (bF b1 f)).trans (h.eq b b1 b2 b3)),fun b hb=>hf.elim (fun f=>h.own b (f▸hb)) fun f=>by rw[f]at hb;injection hb with hb;exact .inr (hb▸h.jE.size),⟨h.g.1,by rw[hz];exact bF h.g.2 hB.size⟩,h.q.same fun b hb=>(e b (h.lt b hb).2.2.1).trans (h1 b (h.lt b hb).1 (h.lt b hb).2.1)⟩
theorem NS.fin(h:NS w4 x0 gn A n k x s SS zA cs v N' W)(H:MS w4 x0 A n k q x s)(hS:∀b,SS b->s.I w4 x0 b\/w4.heap.size<=b):MS W x0 A n k q {x with N:=N'} {s with N:=v}/\fB w4 W (s.U x0) (Sx.U {s with N:=v} x0):=by refine H.adx h.jE h.eq h.kx (h.ow.mono eI fun b hb=>?_) h.own;have hX:∀b,SS b->¬s.U x0 b:=fun b hb e=>(hS b hb).elim (fun f=>e.elim f.2.2 f.2.1) fun f=>Nat.lt_irrefl _ (bF (H.ul e) f);have h1:=hX b hb;have h2:=(h.lt b hb).2.1;exact⟨(h.lt b hb).1,fun e=>h1 (.inr e),fun e=>e.elim (fun e=>h1 (.inl (.inl e))) fun e=>e.elim (fun e=>h1 (.inl (.inr (.inl e)))) fun e=>e.elim (fun e=>h1 (.inl (.inr (.inr (.inl e))))) fun e=>e.elim h2 fun e=>e.elim (fun e=>h1 (.inl (.inr (.inr (.inr (.inr (.inl e))))))) fun e=>e.elim (fun e=>h1 (.inl (.inr (.inr (.inr (.inr (.inr (.inl e)))))))) fun e=>h1 (.inl (.inr (.inr (.inr (.inr (.inr (.inr e)))))))⟩
end
theorem MS.tick(H:MS w x0 A n k q x s)(v:Int):MS (w.setCell ⟨x0,18,none⟩ v) x0 A n k q {x with time:=v} s/\fB w (w.setCell ⟨x0,18,none⟩ v) (s.U x0) (s.U x0) :=
 have hB:Below 0 w (w.setCell ⟨x0,18,none⟩ v):=(Below.refl 0 w).setCell (p:=⟨x0,18,none⟩) (aY _) _
 have hs:∀b,b≠x0->(w.setCell ⟨x0,18,none⟩ v).heap[b]?=w.heap[b]?:=fun b h=>dp _ _ _ _ h
 ⟨H.upd hB (fun b _ h=>hs b h) (H.blk.bb 18 _) rfl rfl rfl rfl rfl rfl rfl rfl rfl,⟨hB,fun b _ h=>hs b fun e=>h (.inl (.inl e)),fun _ h=>.inl h⟩⟩
theorem Dc{Q:Mo.Rq}(h:(Mo.cT x t Q).2≠0):(Mo.cT x t Q).1=x:=by exact Vi
theorem S8(H:MS w x0 A n k q x s)(t:Nat)(ht:t<x.T.length)(K2:x.P.length=x.T.length)(Ha:x.S.length=x.T.length)(Q:Mo.Rq)(zq:Sl)(hq:dv w (s.I w x0) bk zq.A Q.cases)(hl:Q.cases.length<=9223372036854775807)(h0:0<=(Mo.bu x t).seq)(h1:(Mo.bu x t).seq<=1048575)(hN:x.N.length<=900000)(OZ:0<=x.time/\x.time<=1000000) :
 Calls prog 47 #[.pointer x0,t,.agg (ml Q zq).toArray] w fun e w'=>e=.returned (.int .i64 (Mo.j9 x t Q).2)/\xJ x0 A n k q (Mo.j9 x t Q).1 w s w':=by
 have S7:t<x.P.length:=by rw[K2];exact ht
 obtain⟨gT,dT,z,hv,hgT,_,_,hc,_⟩:=H.task ht
 obtain⟨gP,dP,zp,Hj,hgP,_,_,_,hcP,_⟩:=H.FP S7
 obtain⟨pc,bM⟩:=aD ((Mo.bu x t).pc)
 obtain⟨on,jN⟩:=aD ((Mo.gG x t).on)
 have HC:Hid (Mo.j9 x t Q=if pc≠0\/on=true\/Mo.bt Q=false then(x,15)else if(Mo.cT {x with time:=x.time+1} t Q).2≠0 then({x with time:=x.time+1,N:=x.N++[⟨1,t,0,x.time+1,Q,Mo.dC⟩,⟨3,t,0,x.time+1,Q,Mo.bD 7⟩]},0)else((Mo.cT {x with time:=x.time+1} t Q).1,0)):=by unfold Hid Mo.j9;rw[bM,jN]
 obtain⟨w1,kI⟩:=aD (w.alloc (iG Q zq.A Q.cases.length zq.c))
 have bj:Hid (Below w w w1):=by rw[kI];exact ak (aj w) _
 have gI:Hid (af w1 w.heap.size 42 (ml Q zq).toArray):=by rw[kI];exact af.new _ _ _
 have ud:=aa (H.more bj)
 have uA:=aa (lq w1 Q.kind Q.arg Q.value Q.dflt zq.A zq.c Q.cases hl (hq.1.below bj))
 rw[show bt Q.kind Q.arg Q.value Q.cases=Mo.bt Q from rfl]at uA
 obtain⟨fq,cW⟩:=aD (Mo.bt Q)
 have SE:=aa cW
 rw[<-cW]at uA HC
 have ct:∀wx,Below w w wx->wx.cell? ⟨gT,t*34,none⟩=some (.int .i64 pc):=fun wx hb=>(Below.cell hb (bc (hc 0 _ rfl))).trans (by rw[bM];exact hc 0 _ rfl)
 have cp:∀wx,Below w w wx->wx.cell? ⟨gP,t*7,none⟩=some (.bool on):=fun wx hb=>(Below.cell hb (bc (hcP 0 _ rfl))).trans (by rw[jN];exact hcP 0 _ rfl)
 have ct1:=ct w1 bj
 have cp1:=cp w1 bj
 have HV:=aa hv;have O4:=aa Hj;have HT:=aa ht;have FE:=aa S7;have HQ:=aa hq;have HSL:=aa Ha;have HH:=aa H;have H0:=aa h0;have H1:=aa h1;have yb:=aa hN;have HTM:=aa OZ;have ng:=aa kI
 have e1:IntKind.i64.wrap (x.time+1)=x.time+1:=bK _ ae
 obtain⟨aT,kB,hlx⟩:=af.aK ud.blk
 obtain⟨jG,-,hlr⟩:=af.aK gI
 unfold ml at jG
 unfold mG at aT
 rw[hv,Hj]at aT
 clear H hq hl hN Ha K2 h0 h1 hv Hj hc hcP ct cp bM jN kI cW OZ
 unfold ml
 go_enter func47,ntmps47
 go_upto_region 1 with fail
 rw[<-ng.out]
 clear ng
 have hno:∀w9,Below w w w9->Mo.j9 x t Q=(x,15)->(Ending.returned (.int .i64 15)=.returned (.int .i64 (Mo.j9 x t Q).2)/\xJ x0 A n k q (Mo.j9 x t Q).1 w s w9):=fun w9 hb e=>by rw[e];exact⟨rfl,xJ.more HH hb⟩
 have xy:=aa hno
 clear hno
 by_cases nz:pc=0
 rotate_left
 ·have d1:(pc !=0)=true:=by simpa using nz
  have HZ:=aa nz;clear nz;go_wp2_with fail;go_ret;exact xy.out w1 bj (by rw[HC.out,au (.inl HZ.out)])
 have d1:(pc !=0)=false:=by rw[nz];rfl
 have HZ:=aa nz
 clear nz
 cases on with
 |true=>go_wp2_with fail;go_ret;exact xy.out w1 bj (by rw[HC.out,au (.inr (.inl (by first|rfl|trivial)))])
 |false =>
  go_wp2_with fail;refine uA.mono ?_;rintro e w2 ⟨rfl,hb2⟩;have bq:=aa (ag bj hb2);have sJ:=aa (ud.more hb2);have g9:=aa (gI.ag hb2);clear hb2 uA aT kB hlx jG hlr ct1 cp1 ud gI;cases fq with
  |false=>go_wp2_with fail;go_ret;exact xy.out w2 bq (by rw[HC.out,au (.inr (.inr (by first|rfl|trivial)))])
  |true =>
   obtain⟨aT,kB,hlx⟩:=af.aK sJ.blk;obtain⟨jG,-,hlr⟩:=af.aK g9;unfold ml at jG;unfold mG at aT;clear d1;go_upto_region 4 with fail
   have iq:Hid (Mo.j9 x t Q=if(Mo.cT {x with time:=x.time+1} t Q).2≠0 then({x with time:=x.time+1,N:=x.N++[⟨1,t,0,x.time+1,Q,Mo.dC⟩,⟨3,t,0,x.time+1,Q,Mo.bD 7⟩]},0)else((Mo.cT {x with time:=x.time+1} t Q).1,0)):=HC.trans (ai fun h=>h.elim (fun h=>h HZ) fun h=>h.elim (fun h=>by cases h) fun h=>by cases h);clear HC xy aT kB hlx jG hlr;obtain⟨wH,zW⟩:=MS.tick sJ (x.time+1);have Zq:w.heap.size≠x0:=fun e=>Nat.lt_irrefl _ (e▸HH.blk.lt);have GS:af (w2.setCell ⟨x0,18,none⟩ (.int .i64 (x.time+1))) w.heap.size 42 (ml Q zq).toArray:=g9.far Zq _;have zW:=fB.trans (fB.ext bq _) zW;have sf:dv (w2.setCell ⟨x0,18,none⟩ (.int .i64 (x.time+1))) (fun b=>b<w.heap.size/\¬s.U x0 b) bk zq.A Q.cases:=(HQ.same fun b hb=>zW.same b hb.1 fun e=>e.elim hb.2.2 hb.2.1).mono fun b hb=>⟨hb.1,fun e=>e.elim hb.2.2 hb.2.1⟩
   have nU:=aa wH;have sg:=aa zW;have fx:=aa GS;have jc:=aa sf;clear wH zW GS sf Zq;generalize w2.setCell ⟨x0,18,none⟩ (.int .i64 (x.time+1))=w3 at *;obtain⟨x1,hx1⟩:∃x1:Mo.Mc,x1={x with time:=x.time+1}:=⟨_,rfl⟩
   rw[<-hx1]at nU iq;have hcs:Q.cases.length<=1000000:=bm (Mo.lF SE.symm) ah;have uZ:=aa (Db nU t (by rw[hx1];exact HT.out) (by rw[hx1];exact HSL.out) Q zq jc.1 hcs (by rw[hx1];exact H0.out) (by rw[hx1];exact H1.out) (by rw[hx1];have:=yb.out;show x.N.length<=1000000;omega));obtain⟨er,her⟩:=aD ((Mo.cT x1 t Q).2);have Hh:=aa her;have xV:=aa hx1;have Dn:=aa hcs;rw[<-her]at uZ iq;unfold ml at uZ;obtain⟨jG,-,hlr⟩:=af.aK fx;unfold ml at jG;clear her hx1 hcs;go_wp2_with fail;refine uZ.mono ?_;rintro e w4 ⟨rfl,hE⟩;have HE4:=aa hE;clear hE jG hlr uZ;by_cases he:er=0
   ·have d1:(er !=0)=false:=by rw[he];rfl
    have HE:=aa he;clear he;go_wp2_with fail;go_ret;rw[iq.out,ai (fun e=>e HE.out)];obtain⟨s',h1,h2⟩:=HE4.out;exact⟨rfl,s',h1,fB.trans sg h2⟩
   have d1:(er !=0)=true:=by simpa using he
   have HE:=aa he;clear he;obtain⟨s4,MQ,Yi⟩:=HE4.out;rw[Dc (by rw[<-Hh.out];exact HE.out)]at MQ;have hU:∀b,s.U x0 b->b<w.heap.size:=fun b hb=>HH.ul hb;have hz3:w.heap.size<w3.heap.size:=fx.lt;have jY:=aa ((Yi.same w.heap.size hz3 (fun e=>Nat.lt_irrefl _ (hU _ e))).trans fx);have lQ:=aa (jc.same fun b hb=>Yi.same b (Nat.lt_trans hb.1 hz3) hb.2);have Hm:=aa MQ;have uG:=aa (fB.trans sg Yi);have pC:=aa (fun wx (hx:Ext w4 wx)=>jh wx Q zq Dn (lQ.1.below hx.out));unfold ml at pC;clear MQ Yi hU hz3 HE4 nU sg fx jc sJ g9;go_upto_region 5 with fail
   have aT:=fun wx (hx:Ext w4 wx) i=>af.cell (Hm.more hx.out).blk i;unfold mG at aT;have jG:=fun wx (hx:Ext w4 wx) i=>af.cell (af.ag (show af w4 w.heap.size 42 (ml Q zq).toArray from jY.out) hx.out) i;unfold ml at jG;go_cut[7] (fun s7 wx=>Vc w4 ⟨1,t,0,x1.time,Q,Mo.dC⟩ s7 wx);case first =>
    refine wp_region_held_drew (S:=(Ext w4)) (by kernel_rfl) (Ext.start _) (fun hHeld=>?_);refine aO 0 hHeld ?_;refine aO 1 hHeld ?_;refine aO 2 hHeld ?_;refine aO 3 hHeld ?_;refine aO 4 hHeld ?_;refine aO 5 hHeld ?_;(try simp only[aC]);refine wpAnyH_ready (rs:=[6,8]) (by kernel_rfl) aF ?_;refine(AllReadyH.cons (o:=⟨some 50,_,_,_,_,_⟩) rfl (fun K hK=>?_) (AllReadyH.cons (o:=⟨some 7,_,_,_,_,_⟩) rfl (fun K hK=>?_) AllReadyH.nil));go_simp;((with_reducible refine(pC.out _ bE).mono ?_);rintro e w5 ⟨⟨zA,zc⟩,rfl,ho,hb2⟩;have uH:Ext w4 w5:=Ext.to bE hb2;(try have Da:=(af.jA (af.new w4 _ _)).ag hb2);(try have su:=fun i=>af.cell Da i);(try have hfn:=fun i=>af.free Da i);(try have Cp:=Da.lt));go_wp2_with fail;refine hK.out _ _ (xj) (fun hHeld=>?_);clear hK K;(try simp only[aC]);refine aO 7 hHeld ?_;(try simp only[aC]);refine dJ 8 (fun K hK=>?_);go_simp;refine hK.out _ _ (xj) (fun hHeld=>?_);clear hK K;(try simp only[aC]);refine dJ 9 (fun K hK=>?_);go_simp;refine hK.out _ _ (xj) (fun hHeld=>?_);clear hK K;(try simp only[aC]);refine wpAnyH_done (by kernel_rfl) ?_ _;rotate_left;go_simp;refine hK.out _ _ (xj) (fun hHeld=>?_);clear hK K;(try simp only[aC]);refine dJ 6 (fun K hK=>?_);go_simp;((with_reducible refine(pC.out _ bE).mono ?_);rintro e w5 ⟨⟨zA,zc⟩,rfl,ho,hb2⟩;have uH:Ext w4 w5:=Ext.to bE hb2;(try have Da:=(af.jA (af.new w4 _ _)).ag hb2);(try have su:=fun i=>af.cell Da i);(try have hfn:=fun i=>af.free Da i);(try have Cp:=Da.lt));go_wp2_with fail;refine hK.out _ _ (xj) (fun hHeld=>?_);clear hK K;(try simp only[aC]);refine aO 7 hHeld ?_;(try simp only[aC]);refine dJ 9 (fun K hK=>?_);go_simp;refine hK.out _ _ (xj) (fun hHeld=>?_);clear hK K;(try simp only[aC]);refine wpAnyH_done (by kernel_rfl) ?_ _;rotate_left
    ·go_wp2_with fail;go_meet;have xC:af (w5.alloc (.cells (xp ⟨1,t,0,x1.time,Q,Mo.dC⟩ ⟨zA,zc⟩).toArray 93)) w5.heap.size 93 (xp ⟨1,t,0,x1.time,Q,Mo.dC⟩ ⟨zA,zc⟩).toArray:=af.new _ _ _;exact⟨_,⟨zA,zc⟩,rfl,uH.out.size,xC,(ho.1.same fun b hb=>(ak (aj w5) _).block b hb.2).mono fun b hb=>⟨hb.1,by simp;omega,by have:=hb.2;omega⟩,Ext.alloc uH _⟩
    ·clear su hfn Cp;go_wp2_with fail;have hQ:=aR (vs:=[.int .i64 1,t,oZ,x1.time,Q.kind,Q.arg,Q.value,Q.dflt,.slice zA Q.cases.length zc,oZ,oZ,oZ,oZ]) (cs:=[oZ,oZ,oZ,oZ,oZ,oZ,oZ,false,oN,oZ,oZ,oZ,oZ]) Da rfl;have vW:Ext w4 (av w5 w4.heap.size 0 [.int .i64 1,t,oZ,x1.time,Q.kind,Q.arg,Q.value,Q.dflt,.slice zA Q.cases.length zc,oZ,oZ,oZ,oZ]):=aw (aS _) _ _ _ uH.out;have GS:dv (av w5 w4.heap.size 0 [.int .i64 1,t,oZ,x1.time,Q.kind,Q.arg,Q.value,Q.dflt,.slice zA Q.cases.length zc,oZ,oZ,oZ,oZ]) (fun b=>w4.heap.size<=b/\b<(av w5 w4.heap.size 0 [.int .i64 1,t,oZ,x1.time,Q.kind,Q.arg,Q.value,Q.dflt,.slice zA Q.cases.length zc,oZ,oZ,oZ,oZ]).heap.size/\b≠w4.heap.size) bk zA Q.cases:=(ho.1.same fun b hb=>aM (by have:=hb.1;simp at this;omega) _ 0).mono fun b hb=>⟨by have:=hb.1;simp at this;omega,by rw[bw];exact hb.2,by have:=hb.1;simp at this;omega⟩
     change Met _ _ (av w5 w4.heap.size 0 [.int .i64 1,t,oZ,x1.time,Q.kind,Q.arg,Q.value,Q.dflt,.slice zA Q.cases.length zc,oZ,oZ,oZ,oZ]);generalize av w5 w4.heap.size 0 [.int .i64 1,t,oZ,x1.time,Q.kind,Q.arg,Q.value,Q.dflt,.slice zA Q.cases.length zc,oZ,oZ,oZ,oZ]=w6 at *;go_meet;exact⟨_,⟨zA,zc⟩,rfl,aS _,hQ,GS,vW⟩
   case rest =>
    obtain⟨gn,⟨zA,zc⟩,rfl,Cp,O0,hRq,hXW⟩:=hcut;obtain⟨y1,KA⟩:∃y:Mo.Nt,y=⟨1,t,0,x1.time,Q,Mo.dC⟩:=⟨_,rfl⟩
    rw[<-KA]at O0;obtain⟨SS,hSS⟩:∃SS:Nat->Prop,SS=fun b=>s4.I w4 x0 b\/(w4.heap.size<=b/\b<wc.heap.size/\b≠gn):=⟨_,rfl⟩
    have hU:∀b,s4.U x0 b->b<w4.heap.size:=fun b hb=>Hm.ul hb;have HNa:Hid (NS w4 x0 gn A n k x1 s4 SS zA Q.cases s4.N x1.N wc):=by
     have hgU:¬s4.U x0 gn:=fun e=>Nat.lt_irrefl _ (bF (hU _ e) Cp);refine⟨(Hm.more hXW).blk,(Hm.N.move eI (fun b hb=>hXW.block b hb.1) fun b hb=>hXW.block b (aH.lt Hm.N hb).2).mono eI (fun b hb=>by rw[hSS];exact .inl hb),fun b hb=>?_,⟨fun e=>hgU (.inl (.inr (.inr (.inr (.inl e))))),fun e=>Hm.far.2.2.1 x0 e rfl,fun e=>hgU (.inl (.inl e))⟩,hXW.mono (aY _),fun b h1 _ _=>hXW.block b h1,fun b hb=>.inl hb,⟨Cp,O0.lt⟩,hRq.mono fun b hb=>by rw[hSS];exact .inr hb⟩;rw[hSS]at hb;rcases hb with hb|hb
     ·exact⟨bF hb.1 hXW.size,fun e=>hb.2.2 (.inr (.inr (.inr (.inl e)))),fun e=>hb.2.2 (.inl e),fun e=>Nat.lt_irrefl _ (bF hb.1 (e▸Cp))⟩
     ·have hbU:¬s4.U x0 b:=fun e=>Nat.lt_irrefl _ (bF (hU _ e) hb.1);exact⟨hb.2.1,fun e=>hbU (.inl (.inr (.inr (.inr (.inl e))))),fun e=>hbU (.inl (.inl e)),hb.2.2⟩
    have AR:Hid (∀b,SS b->s4.I w4 x0 b\/w4.heap.size<=b):=fun b hb=>by rw[hSS]at hb;exact hb.imp id fun h=>h.1
    have Zu:=aa O0;have HY1:=aa KA;have ab4:Hid (y1.aQ.cases=Q.cases):=by unfold Hid;rw[KA]
    have S9:Hid (x1.N=x.N):=by unfold Hid;rw[xV.out]
    clear O0 KA hSS hU hRq hXW Cp aT jG pC lQ jY;go_upto_region 6 with fail
    have yg:gn<wc.heap.size:=Zu.lt;have Ta:=aa ((ak (aj wc) (.cells #[y1.kind,y1.th,y1.seq,y1.time,y1.aQ.kind,y1.aQ.arg,y1.aQ.value,y1.aQ.dflt,.slice zA y1.aQ.cases.length zc,y1.res.seq,y1.res.cs,y1.res.code,y1.res.value] 93)).drew);have tG:=aa (HNa.more Ta);have hx1:wc.drew.cell? ⟨x0,14,none⟩=some s4.N:=af.cell HNa.kx 14;have hx2:(wc.alloc (.cells #[y1.kind,y1.th,y1.seq,y1.time,y1.aQ.kind,y1.aQ.arg,y1.aQ.value,y1.aQ.dflt,.slice zA y1.aQ.cases.length zc,y1.res.seq,y1.res.cs,y1.res.code,y1.res.value] 93)).drew.cell? ⟨x0,14,none⟩=some s4.N:=af.cell tG.kx 14;have hx0:wc.cell? ⟨x0,14,none⟩=some s4.N:=hx1;have hlw:x0<wc.heap.size:=HNa.kx.lt;have oW:Hid (Rd (wc.alloc (.cells #[y1.kind,y1.th,y1.seq,y1.time,y1.aQ.kind,y1.aQ.arg,y1.aQ.value,y1.aQ.dflt,.slice zA y1.aQ.cases.length zc,y1.res.seq,y1.res.cs,y1.res.code,y1.res.value] 93)).drew wc.heap.size (xp y1 ⟨zA,zc⟩)):=Rd.lit wc (xp y1 ⟨zA,zc⟩) 93;have su:=fun(wx:World) (hx:wx.heap[gn]?=wc.heap[gn]?) i=>af.cell (af.qU Zu hx) i;unfold xp at su;refine wp_region_held_drew (S:=fun wx:World=>wx.heap[gn]?=wc.heap[gn]?) (by kernel_rfl) rfl (fun hHeld=>?_);refine aO 0 hHeld ?_;refine aO 1 hHeld ?_;refine aO 2 hHeld ?_;refine aO 3 hHeld ?_;refine aO 5 hHeld ?_;(try simp only[aC]);refine wpAnyH_ready (rs:=[4,6]) (by kernel_rfl) aF ?_;refine(AllReadyH.cons (o:=⟨some 56,_,_,_,_,_⟩) rfl (fun K hK=>?_) (AllReadyH.cons (o:=⟨some 58,_,_,_,_,_⟩) rfl (fun K hK=>?_) AllReadyH.nil));go_simp;refine hK.out _ _ (by first|assumption|exact(ak (aj wc) _).drew.block gn yg) (fun hHeld=>?_);clear hK K;(try simp only[aC]);refine dJ 6 (fun K hK=>?_);go_simp;refine hK.out _ _ (by first|assumption|exact(ak (aj wc) _).drew.block gn yg) (fun hHeld=>?_);clear hK K;(try simp only[aC]);rotate_left;go_simp;refine hK.out _ _ (by first|assumption|exact(ak (aj wc) _).drew.block gn yg) (fun hHeld=>?_);clear hK K;(try simp only[aC]);refine dJ 4 (fun K hK=>?_);go_simp;refine hK.out _ _ (by first|assumption|exact(ak (aj wc) _).drew.block gn yg) (fun hHeld=>?_);clear hK K;(try simp only[aC]);all_goals
     refine dJ 7 (fun K hK=>?_);refine ny rfl _ _ 76 rfl 93 13 120 _ eI underlying76 nK rfl ah _ x1.N rfl tG.ow (fun b h=>⟨(tG.lt b h).1,(tG.lt b h).2.1⟩) _ _ (xp y1 ⟨zA,zc⟩) rfl (List.all_eq_true.1 (by rfl)) rfl oW ⟨⟨zA,zc⟩,rfl,by have h9:=tG.q;rw[<-ab4.out]at h9;exact h9⟩ (by have h:=yb.out;rw[<-S9.out]at h;simp;omega) (by have h:=yb.out;rw[<-S9.out]at h;simp;omega) ?_;intro v5 w7 kv sr di;obtain⟨B6,d6,xX⟩:=aH.shape kv;obtain⟨l6,jm⟩:∃l5,l5=(x1.N++[y1]).length:=⟨_,rfl⟩
     rw[<-jm]at xX;subst xX;clear jm;have Ko:w7.heap[gn]?=wc.heap[gn]?:=(sr.block gn (bF yg Ta.size) (fun e=>tG.gx.1 e.symm)).trans (Ta.block gn yg);have oc:af w7 x0 101 _:=(sr.block x0 tG.kx.lt fun e=>tG.gx.2.1 e.symm).trans tG.kx;obtain⟨FN,hf5,CE⟩:=af.aK oc;unfold mG at FN;have hgx:=tG.gx.2.2;have rL:=aa kv;have S3:=aa sr;have iW:=aa di;clear kv sr di oc;refine hK.out _ _ (by first|exact Ko) (fun hHeld=>?_);clear hK K;(try simp only[aC]);refine aO 8 hHeld ?_;refine aO 9 hHeld ?_;(try simp only[aC]);refine dJ 10 (fun K hK=>?_);go_simp;refine hK.out _ _ ((dp w7 ⟨x0,14,none⟩ _ gn hgx).trans Ko) (fun hHeld=>?_);clear hK K;(try simp only[aC]);refine wpAnyH_done (by kernel_rfl) ?_ _;have HNc:=aa (tG.app rL S3 iW);have HNd:=aa (af.qU Zu hHeld);clear hHeld su tG hx1 hx2 hx0 hlw hgx oW Ko FN hf5 CE rL S3 iW yg Ta;generalize w7.setCell ⟨x0,14,none⟩ (.slice B6 l6 d6)=w8 at *
    all_goals
     obtain⟨su,hfn,xz⟩:=af.aK HNd;unfold xp at su;go_upto_region 8 with fail
     obtain⟨y2,DI⟩:∃y:Mo.Nt,y=⟨3,t,0,x1.time,Q,Mo.bD 7⟩:=⟨_,rfl⟩
     have hB9:af (av (w8.setCell ⟨gn,0,none⟩ (.int .i64 3)) gn 9 [oZ,oZ,.int .i64 7,oZ]) gn 93 (xp y2 ⟨zA,zc⟩).toArray:=by have h:=HNd.out;rw[HY1.out]at h;rw[DI];exact((((h.bb 0 _).bb 9 _).bb 10 _).bb 11 _).bb 12 _
     have hN9:=((((HNc.O6 0 (.int .i64 3)).O6 9 oZ).O6 10 oZ).O6 11 (.int .i64 7)).O6 12 oZ;change NS _ _ _ _ _ _ _ _ _ _ _ _ _ (av (w8.setCell ⟨gn,0,none⟩ (.int .i64 3)) gn 9 [oZ,oZ,.int .i64 7,oZ])at hN9;change Code.wp _ _ _ _ (av (w8.setCell ⟨gn,0,none⟩ (.int .i64 3)) gn 9 [oZ,oZ,.int .i64 7,oZ]);have HNe:=aa hN9;have HNf:=aa hB9;have Qe:=aa DI;have ab5:Hid (y2.aQ.cases=Q.cases):=by unfold Hid;rw[DI]
     clear hN9 hB9 DI su hfn xz HNc HNd HNa Zu;generalize av (w8.setCell ⟨gn,0,none⟩ (.int .i64 3)) gn 9 [oZ,oZ,.int .i64 7,oZ]=w9 at *;have yg:gn<w9.heap.size:=HNf.lt;have Ta:=aa ((ak (aj w9) (.cells #[y2.kind,y2.th,y2.seq,y2.time,y2.aQ.kind,y2.aQ.arg,y2.aQ.value,y2.aQ.dflt,.slice zA y2.aQ.cases.length zc,y2.res.seq,y2.res.cs,y2.res.code,y2.res.value] 93)).drew);have tG:=aa (HNe.more Ta);have hx1:w9.drew.cell? ⟨x0,14,none⟩=some (.slice B6 l6 d6):=af.cell HNe.kx 14;have hx2:(w9.alloc (.cells #[y2.kind,y2.th,y2.seq,y2.time,y2.aQ.kind,y2.aQ.arg,y2.aQ.value,y2.aQ.dflt,.slice zA y2.aQ.cases.length zc,y2.res.seq,y2.res.cs,y2.res.code,y2.res.value] 93)).drew.cell? ⟨x0,14,none⟩=some (.slice B6 l6 d6):=af.cell tG.kx 14;have hx0:w9.cell? ⟨x0,14,none⟩=some (.slice B6 l6 d6):=hx1;have hlw:x0<w9.heap.size:=HNe.kx.lt;have oW:Hid (Rd (w9.alloc (.cells #[y2.kind,y2.th,y2.seq,y2.time,y2.aQ.kind,y2.aQ.arg,y2.aQ.value,y2.aQ.dflt,.slice zA y2.aQ.cases.length zc,y2.res.seq,y2.res.cs,y2.res.code,y2.res.value] 93)).drew w9.heap.size (xp y2 ⟨zA,zc⟩)):=Rd.lit w9 (xp y2 ⟨zA,zc⟩) 93;have su:=fun(wx:World) (hx:wx.heap[gn]?=w9.heap[gn]?) i=>af.cell (af.qU HNf hx) i;unfold xp at su;refine wp_region_held_drew (S:=fun wx:World=>wx.heap[gn]?=w9.heap[gn]?) (by kernel_rfl) rfl (fun hHeld=>?_);refine aO 0 hHeld ?_;refine aO 1 hHeld ?_;refine aO 2 hHeld ?_;refine aO 3 hHeld ?_;refine aO 5 hHeld ?_;(try simp only[aC]);refine wpAnyH_ready (rs:=[4,6]) (by kernel_rfl) aF ?_;refine(AllReadyH.cons (o:=⟨some 69,_,_,_,_,_⟩) rfl (fun K hK=>?_) (AllReadyH.cons (o:=⟨some 71,_,_,_,_,_⟩) rfl (fun K hK=>?_) AllReadyH.nil));go_simp;refine hK.out _ _ (by first|assumption|exact(ak (aj w9) _).drew.block gn yg) (fun hHeld=>?_);clear hK K;(try simp only[aC]);refine dJ 6 (fun K hK=>?_);go_simp;refine hK.out _ _ (by first|assumption|exact(ak (aj w9) _).drew.block gn yg) (fun hHeld=>?_);clear hK K;(try simp only[aC]);rotate_left;go_simp;refine hK.out _ _ (by first|assumption|exact(ak (aj w9) _).drew.block gn yg) (fun hHeld=>?_);clear hK K;(try simp only[aC]);refine dJ 4 (fun K hK=>?_);go_simp;refine hK.out _ _ (by first|assumption|exact(ak (aj w9) _).drew.block gn yg) (fun hHeld=>?_);clear hK K;(try simp only[aC]);all_goals
      refine dJ 7 (fun K hK=>?_);refine ny rfl _ _ 76 rfl 93 13 120 _ eI underlying76 nK rfl ah _ (x1.N++[y1]) rfl tG.ow (fun b h=>⟨(tG.lt b h).1,(tG.lt b h).2.1⟩) _ _ (xp y2 ⟨zA,zc⟩) rfl (List.all_eq_true.1 (by rfl)) rfl oW ⟨⟨zA,zc⟩,rfl,by have h9:=tG.q;rw[<-ab5.out]at h9;exact h9⟩ (by have h:=yb.out;rw[<-S9.out]at h;simp;omega) (by have h:=yb.out;rw[<-S9.out]at h;simp;omega) ?_;intro v5 wa kv sr di;obtain⟨B9,d9,xX⟩:=aH.shape kv;obtain⟨l9,jm⟩:∃l5,l5=((x1.N++[y1])++[y2]).length:=⟨_,rfl⟩
      rw[<-jm]at xX;subst xX;clear jm;have Ko:wa.heap[gn]?=w9.heap[gn]?:=(sr.block gn (bF yg Ta.size) (fun e=>tG.gx.1 e.symm)).trans (Ta.block gn yg);have oc:af wa x0 101 _:=(sr.block x0 tG.kx.lt fun e=>tG.gx.2.1 e.symm).trans tG.kx;obtain⟨FN,hf5,CE⟩:=af.aK oc;unfold mG at FN;have hgx:=tG.gx.2.2;have rL:=aa kv;have S3:=aa sr;have iW:=aa di;clear kv sr di oc;refine hK.out _ _ (by first|exact Ko) (fun hHeld=>?_);clear hK K;(try simp only[aC]);refine aO 8 hHeld ?_;refine aO 9 hHeld ?_;(try simp only[aC]);refine dJ 10 (fun K hK=>?_);go_simp;refine hK.out _ _ ((dp wa ⟨x0,14,none⟩ _ gn hgx).trans Ko) (fun hHeld=>?_);clear hK K;(try simp only[aC]);refine wpAnyH_done (by kernel_rfl) ?_ _;have HNg:=aa (tG.app rL S3 iW);have HNh:=aa (af.qU HNf hHeld);clear hHeld su tG hx1 hx2 hx0 hlw hgx oW Ko FN hf5 CE rL S3 iW yg Ta;generalize wa.setCell ⟨x0,14,none⟩ (.slice B9 l9 d9)=wb at *
     all_goals
      go_wp2_with fail;go_ret;rw[iq.out,au HE.out];obtain⟨h1,h2⟩:=HNg.fin Hm AR;refine⟨rfl,_,?_,fB.trans uG h2⟩;rw[HY1.out,Qe.out,List.append_assoc,xV.out]at h1;exact h1
end
def FR(e:Mo.Ev)(z o:Sl):List Value:=[e.kind,e.th,e.aQ.kind,e.aQ.arg,e.aQ.value,e.aQ.dflt,.slice z.A e.aQ.cases.length z.c,e.ek,.slice o.A e.outs.length o.c]
section
variable{w:World} {x0:Nat} {A:Option Addr} {n k q:Nat} {x:Mo.Mc} {s:Sx}
theorem Tb(H:MS w x0 A n k q x s)(e:Mo.Ev)(z o:Sl)(t:Nat)(Vm:e.th=t)(ht:t<x.T.length)(K2:x.P.length=x.T.length)(ho:bC w .i64 o.A e.outs)(hol:e.outs.length<=9223372036854775807)(hoc:e.outs.length<=o.c)(OZ:0<=x.time/\x.time<=1000000) :
 Calls prog 48 #[.pointer x0,.agg (FR e z o).toArray] w fun r w'=>r=.returned (.int .i64 (Mo.jJ x t e.ek e.outs).2)/\xJ x0 A n k q (Mo.jJ x t e.ek e.outs).1 w s w':=by
 have S7:t<x.P.length:=by rw[K2];exact ht
 obtain⟨gT,dT,zt,hv,hgT,_,_,hc,_⟩:=H.task ht
 obtain⟨gP,dP,zp,Hj,hgP,_,_,_,hcP,_⟩:=H.FP S7
 obtain⟨pc,bM⟩:=aD ((Mo.bu x t).pc)
 obtain⟨on,jN⟩:=aD ((Mo.gG x t).on)
 obtain⟨op,hop⟩:=aD (Mo.kF e.ek e.outs)
 have HC0:Hid (op=none->Mo.jJ x t e.ek e.outs=(x,15)):=fun h=>by unfold Mo.jJ;rw[<-hop,h]
 have pn:Hid (∀p,op=some p->Mo.jJ x t e.ek e.outs=if x.c.kind≠3\/pc≠0\/on=true then(x,15)else({x with time:=x.time+1,P:=x.P.set t p},0)):=fun p h=>by unfold Mo.jJ;rw[<-hop,h,bM,jN]
 obtain⟨w1,kI⟩:=aD (w.alloc (.cells #[e.kind,t,e.aQ.kind,e.aQ.arg,e.aQ.value,e.aQ.dflt,.slice z.A e.aQ.cases.length z.c,e.ek,.slice o.A e.outs.length o.c] 57))
 have bj:Hid (Below w w w1):=by rw[kI];exact ak (aj w) _
 have gI:Hid (af w1 w.heap.size 57 #[e.kind,t,e.aQ.kind,e.aQ.arg,e.aQ.value,e.aQ.dflt,.slice z.A e.aQ.cases.length z.c,e.ek,.slice o.A e.outs.length o.c]):=by rw[kI];exact af.new _ _ _
 have HST:=aa (C9 w1 e.ek o.A e.outs.length o.c e.outs rfl hol hoc (ho.below bj))
 rw[<-hop]at HST
 unfold Zo kM at HST
 have ct:∀wx,Below w w wx->wx.cell? ⟨gT,t*34,none⟩=some (.int .i64 pc):=fun wx hb=>(Below.cell hb (bc (hc 0 _ rfl))).trans (by rw[bM];exact hc 0 _ rfl)
 have cp:∀wx,Below w w wx->wx.cell? ⟨gP,t*7,none⟩=some (.bool on):=fun wx hb=>(Below.cell hb (bc (hcP 0 _ rfl))).trans (by rw[jN];exact hcP 0 _ rfl)
 have HCT:=aa ct;have oa:=aa cp
 have HV:=aa hv;have O4:=aa Hj;have HT:=aa ht;have FE:=aa S7;have HH:=aa H;have HTM:=aa OZ;have ng:=aa kI
 have e1:IntKind.i64.wrap (x.time+1)=x.time+1:=bK _ ae
 obtain⟨jG,-,hlr⟩:=af.aK gI
 unfold FR
 rw[Vm]
 clear H ho hol hoc K2 hv Hj hc hcP ct cp bM jN hop kI OZ Vm
 go_enter func48,ntmps48
 go_upto_region 1 with fail
 rw[<-ng.out]
 clear ng
 have hno:∀w9,Below w w w9->Mo.jJ x t e.ek e.outs=(x,15)->(Ending.returned (.int .i64 15)=.returned (.int .i64 (Mo.jJ x t e.ek e.outs).2)/\xJ x0 A n k q (Mo.jJ x t e.ek e.outs).1 w s w9):=fun w9 hb e=>by rw[e];exact⟨rfl,xJ.more HH hb⟩
 have xy:=aa hno
 clear hno
 go_wp2_with fail
 refine HST.mono ?_
 rintro r w2 ⟨zg,rfl,Vl,hb2⟩
 have bq:=aa (ag bj hb2);have g9:=aa (gI.ag hb2);have eu:=aa Vl
 have ab6:=aa hb2
 clear hb2 Vl HST jG hlr gI
 rcases op with _|p
 ·go_upto_region 2 with fail
  go_quiet(fail);go_wp2_with fail;go_ret;exact xy.out _ (by first|exact ak bq _|exact bO (ak bq _) _) (HC0 (by first|rfl|trivial))
 ·have bZ:=aa (ak bq (.cells #[p.on,p.shut,p.over,p.ek,.slice zg.A p.outs.length zg.c,p.at_,p.value] 86));dsimp only[Option.getD_some]at eu;obtain⟨w3,hw3⟩:=aD (w2.alloc (.cells #[p.on,p.shut,p.over,p.ek,.slice zg.A p.outs.length zg.c,p.at_,p.value] 86));have KP:=aa hw3;have KO:Hid (af w3 w2.heap.size 86 #[p.on,p.shut,p.over,p.ek,.slice zg.A p.outs.length zg.c,p.at_,p.value]):=by rw[hw3];exact af.new _ _ _
  have fx:Hid (af w3 w.heap.size 57 #[e.kind,t,e.aQ.kind,e.aQ.arg,e.aQ.value,e.aQ.dflt,.slice z.A e.aQ.cases.length z.c,e.ek,.slice o.A e.outs.length o.c]):=by rw[hw3];exact g9.alloc _
  have iP:Hid (cA w3 (fun b=>w1.heap.size<=b/\b<w3.heap.size) .i64 zg.A p.outs/\p.outs.length<=zg.c):=by rw[hw3];exact⟨(eu.1.same fun b hb=>(ak (aj w2) _).block b hb.2).mono fun b hb=>⟨hb.1,bF hb.2 (ak (aj w2) _).size⟩,eu.2⟩
  have HG2:Hid (w1.heap.size<=w2.heap.size):=ab6.size;rw[<-hw3]at bZ;have nU:=aa (HH.more bZ);have ED:=pn.out p rfl;have UD:=aa ED;have adu:w.heap.size<w2.heap.size:=g9.lt;clear hw3 ED g9 eu ab6;go_upto_region 2 with fail
  rw[<-KP.out];clear KP;obtain⟨aT,-,hlx⟩:=af.aK nU.blk;unfold mG at aT;rw[HV.out,O4.out]at aT;obtain⟨jG,-,hlr⟩:=af.aK fx;have ct1:=HCT.out w3 bZ;have cp1:=oa.out w3 bZ;have KQ:=HT.out;have X2:=FE.out;by_cases hk:x.c.kind=3;rotate_left
  ·have d1:(x.c.kind !=3)=true:=by simpa using hk
   have HK:=aa hk;clear hk;go_quiet(fail);go_wp2_with fail;go_ret;exact xy.out _ (by first|exact bZ.out|exact bO bZ _) (by rw[UD.out,au (.inl HK.out)])
  have d1:(x.c.kind !=3)=false:=by simpa using hk
  have HK:=aa hk;clear hk;by_cases nz:pc=0;rotate_left
  ·have d2:(pc !=0)=true:=by simpa using nz
   have HZ:=aa nz;clear nz;go_quiet(fail);go_wp2_with fail;go_ret;exact xy.out _ (by first|exact bZ.out|exact bO bZ _) (by rw[UD.out,au (.inr (.inl HZ.out))])
  have d2:(pc !=0)=false:=by simpa using nz
  have HZ:=aa nz;clear nz;cases on with
  |true=>go_quiet(fail);go_wp2_with fail;go_ret;exact xy.out _ (by first|exact bZ.out|exact bO bZ _) (by rw[UD.out,au (.inr (.inr (by first|rfl|trivial)))])
  |false =>
   go_quiet(fail);have hbq:Below w3 w3 (w3.drewN nq):=bO (aj w3) nq;have fJ:=aa (bO bZ nq);have Hm:=aa (nU.more hbq);have jY:=aa (fx.ag hbq);have MK:=aa (KO.ag hbq);have kV:Hid (cA (w3.drewN nq) (fun b=>w1.heap.size<=b/\b<w3.heap.size) .i64 zg.A p.outs/\p.outs.length<=zg.c):=⟨iP.1.same fun b hb=>hbq.block b hb.2,iP.2⟩
   have YJ:(w3.drewN nq).heap.size=w3.heap.size:=aF;rw[<-YJ]at kV;clear hbq bZ nU fx KO iP aT hlx jG hlr ct1 cp1 d1 d2 YJ;generalize w3.drewN nq=w4 at *;have hU:∀b,s.U x0 b->b<w.heap.size:=fun b hb=>HH.ul hb;have G9:=hU x0 (.inl (.inl rfl));have HU:=aa hU;obtain⟨aT,kB,hlx⟩:=af.aK Hm.blk;unfold mG at aT;clear hU;go_upto_region 5 with fail
   obtain⟨hM5,Hb⟩:=MS.tick Hm (x.time+1);have Dz:=jY.far (show w.heap.size≠x0 by omega) (.int .i64 (x.time+1)) (p:=⟨x0,18,none⟩);have Mb:=MK.far (show w2.heap.size≠x0 by omega) (.int .i64 (x.time+1)) (p:=⟨x0,18,none⟩);have rL:Hid (cA (w4.setCell ⟨x0,18,none⟩ (.int .i64 (x.time+1))) (fun b=>w1.heap.size<=b/\b<w4.heap.size) .i64 zg.A p.outs/\p.outs.length<=zg.c):=⟨kV.1.same fun b hb=>dp _ _ _ _ (show b≠x0 by have:=hb.1;have:=bj.size;omega),kV.2⟩
   have hz5:(w4.setCell ⟨x0,18,none⟩ (.int .i64 (x.time+1))).heap.size=w4.heap.size:=aF;rw[<-hz5]at rL;have oC:=aa hM5;have oG:=aa (fB.trans (fB.ext fJ _) Hb);have jd:=aa Dz;have KV:=aa Mb;clear hM5 Hb Dz Mb hz5 aT kB hlx Hm jY MK kV fJ;generalize w4.setCell ⟨x0,18,none⟩ (.int .i64 (x.time+1))=w5 at *;obtain⟨gQ,dQ,zr,Kp,hgQ,_,_,_,hcQ,hfQ⟩:=oC.FP FE;have Ik:=Kp.symm.trans O4;injection Ik with Ik
   injection Ik with Ik
   injection Ik with Ik
   subst Ik;have c0:=hcQ 0 _ rfl;rw[Nat.add_zero]at c0;have c1:=hcQ 1 _ rfl;have c2:=hcQ 2 _ rfl;have c3:=hcQ 3 _ rfl;have c4:=hcQ 4 _ rfl;have c5:=hcQ 5 _ rfl;have c6:=hcQ 6 _ rfl;have TC:=HU.out gQ (.inl (.inr (.inr (.inl (by rw[Kp];rfl)))));have Vk:x0≠gQ:=fun e=>oC.far.2.1 gQ (by rw[Kp];rfl) e.symm;clear Kp hcQ;have aT:=fun(wx:World) (hx:wx.heap[x0]?=w5.heap[x0]?/\wx.heap[w.heap.size]?=w5.heap[w.heap.size]?/\wx.heap[w2.heap.size]?=w5.heap[w2.heap.size]?) i=>af.cell (af.qU oC.blk hx.1) i;unfold mG at aT;rw[O4.out]at aT;have jG:=fun(wx:World) (hx:wx.heap[x0]?=w5.heap[x0]?/\wx.heap[w.heap.size]?=w5.heap[w.heap.size]?/\wx.heap[w2.heap.size]?=w5.heap[w2.heap.size]?) i=>af.cell (af.qU jd hx.2.1) i;have aA:=fun(wx:World) (hx:wx.heap[x0]?=w5.heap[x0]?/\wx.heap[w.heap.size]?=w5.heap[w.heap.size]?/\wx.heap[w2.heap.size]?=w5.heap[w2.heap.size]?) i=>af.cell (af.qU KV hx.2.2) i;refine wp_region_held_drew (S:=fun wx:World=>wx.heap[x0]?=w5.heap[x0]?/\wx.heap[w.heap.size]?=w5.heap[w.heap.size]?/\wx.heap[w2.heap.size]?=w5.heap[w2.heap.size]?) (by kernel_rfl) ⟨rfl,rfl,rfl⟩ (fun hHeld=>?_);refine aO 0 hHeld ?_;refine aO 1 hHeld ?_;refine aO 2 hHeld ?_;refine aO 3 hHeld ?_;refine aO 4 hHeld ?_;refine aO 5 hHeld ?_;refine aO 6 hHeld ?_;refine aO 7 hHeld ?_;(try simp only[aC]);refine dJ 8 (fun K hK=>?_);go_simp;have Ro:w.heap.size≠gQ:=ae;have Rp:w2.heap.size≠gQ:=ae;have hd:∀b,b<w5.heap.size->b≠gQ->(World.drew (av w5 gQ (t*7) [p.on,p.shut,p.over,p.ek,.slice zg.A p.outs.length zg.c,p.at_,p.value])).heap[b]?=w5.heap[b]?:=fun b hb hn=>((aj (av w5 gQ (t*7) [p.on,p.shut,p.over,p.ek,.slice zg.A p.outs.length zg.c,p.at_,p.value])).drew.block b (by rw[bw];exact hb)).trans (aM hn [p.on,p.shut,p.over,p.ek,.slice zg.A p.outs.length zg.c,p.at_,p.value] (t*7));have YW:(World.drew (av w5 gQ (t*7) [p.on,p.shut,p.over,p.ek,.slice zg.A p.outs.length zg.c,p.at_,p.value])).heap[x0]?=w5.heap[x0]?/\(World.drew (av w5 gQ (t*7) [p.on,p.shut,p.over,p.ek,.slice zg.A p.outs.length zg.c,p.at_,p.value])).heap[w.heap.size]?=w5.heap[w.heap.size]?/\(World.drew (av w5 gQ (t*7) [p.on,p.shut,p.over,p.ek,.slice zg.A p.outs.length zg.c,p.at_,p.value])).heap[w2.heap.size]?=w5.heap[w2.heap.size]?:=⟨hd x0 oC.blk.lt Vk,hd _ jd.lt Ro,hd _ KV.lt Rp⟩
   change K _ (World.drew (av w5 gQ (t*7) [p.on,p.shut,p.over,p.ek,.slice zg.A p.outs.length zg.c,p.at_,p.value]));obtain⟨hM,hF⟩:=MS.Ye oC O4 FE p zg ⟨rL.1.mono fun b hb=>⟨hb.2,fun e=>by have:=HU.out b (.inr e);have:=hb.1;have:=bj.size;omega,fun e=>by have:=HU.out b (.inl e);have:=hb.1;have:=bj.size;omega⟩,rL.2⟩;have Ar:=aa (hM.more (aj _).drew);have uX:=aa (fB.trans hF (fB.ext (aj _).drew _));unfold kM at Ar uX;clear hM hF hd;generalize World.drew (av w5 gQ (t*7) [p.on,p.shut,p.over,p.ek,.slice zg.A p.outs.length zg.c,p.at_,p.value])=w6 at *;refine hK.out _ _ YW (fun hHeld=>?_);clear hK K;(try simp only[aC]);refine wpAnyH_done (by kernel_rfl) ?_ _;clear hHeld;clear c0 c1 c2 c3 c4 c5 c6 hfQ aT jG aA;go_wp2_with fail;go_ret;rw[UD.out,ai (fun h=>h.elim (fun h=>h HK.out) fun h=>h.elim (fun h=>h HZ.out) fun h=>by cases h)];exact⟨rfl,_,Ar,fB.trans oG uX⟩
end
end Go.Proofs.YtjcjjiieblineaaGreat
