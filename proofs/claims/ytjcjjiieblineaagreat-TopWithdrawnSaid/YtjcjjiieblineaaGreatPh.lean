/- Walks and plain facts. No condition. -/
import Derived.Test.YtjcjjiieblineaaGreatSb
import Derived.Test.YtjcjjiieblineaaGreatPd
namespace Go.Proofs.YtjcjjiieblineaaGreat
open Go.RowKit Go.Proofs.Tryz
set_option maxHeartbeats 8000000
set_option maxRecDepth 100000
set_option linter.all false
variable {w w' w1 wr w2 w4:World}{n g base k m i b sz:Nat}{α:Type}{A:Option Addr}{c:Mo.bH}{e:TypeId}{v a0 a1 a2 a3 vl vg vc v4:Value}{S:Nat->Prop}{l zs L C:List Int}{h:Mo.Hl}{P:Program}{x:Mo.Wt}{ys:Array Value}{tags:Int}{G:List Acc}{kp:Bool}{own:Mo.Rf}{f:α->List Value}{z:α}
def eL(r:Mo.Rf):List Value:=[r.ix,r.tag]
theorem mZ(r:Mo.Rf):(eL r).length=2:=rfl
theorem sV(r:Mo.Rf):∀u∈eL r,u.oneCell'=true:=by intro u hu;simp[eL]at hu;rcases hu with rfl|rfl<;>rfl
def js(o:Mo.Od):List Value:=[o.ref.ix,o.ref.tag,o.fD]
theorem rD(r:Mo.Od):(js r).length=3:=rfl
theorem vT(r:Mo.Od):∀u∈js r,u.oneCell'=true:=by intro u hu;simp[js]at hu;rcases hu with rfl|rfl|rfl<;>rfl
theorem oT(w:World)(A:Option Addr)(c:Nat)(xs:List Mo.Rf)(hn:n=xs.length)(hl:n<=1000000)(hr:cN w eL A xs) :
 Calls prog 137 #[.slice A n c] w (ri 200 2 eL w xs n) :=
 (D4 w A c (xs.map (iM eL mZ sV)) (by simpa using hn) hl (cN.rows.2 hr)).mono fun _ _ h=>h.toF
theorem Eu(w:World)(A:Option Addr)(c:Nat)(xs:List Mo.Od)(hn:n=xs.length)(hl:n<=1000000)(hr:cN w js A xs) :
 Calls prog 138 #[.slice A n c] w (ri 203 3 js w xs n) :=
 (Ie w A c (xs.map (iM js rD vT)) (by simpa using hn) hl (cN.rows.2 hr)).mono fun _ _ h=>h.toF
def kJ(p:Mo.Pl)(A:Option Addr)(n:Nat)(B:Option Addr)(m:Nat):Value:=.agg #[p.own.ix,p.own.tag,.slice A p.free.length n,.slice B p.old.length m,p.spent]
structure L8 (w:World) (p:Mo.Pl) (A:Option Addr) (n:Nat) (B:Option Addr) (m:Nat):Prop where
 acI:p.free.length<=n
 acJ:p.old.length<=m
 xO:cN w eL A p.free
 rdO:cN w js B p.old
 Q4:p.free.length<=100000
 Q5:p.old.length<=100000
theorem L8.below{p:Mo.Pl}{B:Option Addr}(h:L8 w p A n B m)(hb:Below w w w'):L8 w' p A n B m:=⟨h.acI,h.acJ,h.xO.below hb,h.rdO.below hb,h.Q4,h.Q5⟩
def ux(p:Mo.Pl)(w:World)(v:Value)(w':World):Prop :=∃A n B m,v=kJ p A n B m/\aI w' w.heap.size 200 2 eL (.slice A p.free.length n) p.free/\aI w' w.heap.size 203 3 js (.slice B p.old.length m) p.old/\Below w w w'
section
variable(w:World)
theorem nR(p:Mo.Pl)(A:Option Addr)(n:Nat)(B:Option Addr)(m:Nat)(h:L8 w p A n B m) :
 Calls prog 98 #[kJ p A n B m] w fun e w'=>∃v,e=.returned v/\ux p w v w':=by
 have C1:=aa (fun wx (hb:Below w w wx)=>oT wx A n p.free rfl (bm h.Q4 ae) (h.xO.below hb))
 have C2:=aa (fun wx (hb:Below w w wx)=>Eu wx B m p.old rfl (bm h.Q5 ae) (h.rdO.below hb))
 unfold kJ ux kJ
 clear h
 obtain⟨⟨x,g⟩,fr,ol,s⟩:=p
 dsimp only at *
 obtain⟨k,hk⟩:=aD fr.length
 obtain⟨l,hl⟩:=aD ol.length
 rw[<-hk]at C1 ⊢
 rw[<-hl]at C2 ⊢
 clear hk hl
 have fI:Below w w (((w.alloc (pT x g A k n B l m s)).alloc tO).drew):=(ak (ak (aj w) _) _).drew
 have GD:af (((w.alloc (pT x g A k n B l m s)).alloc tO).drew) w.heap.size 39 _:=(af.new _ _ _).alloc _
 have rE:af (((w.alloc (pT x g A k n B l m s)).alloc tO).drew) (w.heap.size+1) 39 _:=af.newAt _ _ _ aF
 go_enter func98,ntmps98
 go_wp2_with fail
 go_region_law(first
  |(go_simp;go_at_call 137;refine(C1 _ fI).mono ?_;rintro e w1 ⟨A1,n1,rfl,hc1,eo,hb1⟩;have ma:=ag fI hb1;have tV:=GD.ag hb1;have sW:=rE.ag hb1;have Q6:=fun i=>af.cell tV i;go_wp2_with fail)
  |(go_simp;go_at_call 138;refine(C2 _ ma).mono ?_;rintro e w2 ⟨A2,n2,rfl,hc2,fN,hb2⟩;have qO:=ag ma hb2;have hK2:=tV.ag hb2;have vU:=sW.ag hb2;have aaj:=fun i=>af.cell hK2 i;have acK:=fun i=>af.free hK2 i;have acL:=fun i=>af.cell vU i;have acM:=fun i=>af.free vU i;have km:=hK2.lt;have cY:=vU.lt;go_wp2_with fail))
 all_goals
  have hK3:=hK2.bb 2 (.slice A1 k n1);have hK4:=hK3.bb 3 (.slice A2 l n2);have hO1:aI ((w2.setCell ⟨w.heap.size,2,none⟩ (.slice A1 k n1)).setCell ⟨w.heap.size,3,none⟩ (.slice A2 l n2)) w.heap.size 200 2 eL (.slice A1 k n1) fr:=bB (bB ((eo.weak fI.size).ag hb2) hK2 ah _ _) hK3 ah _ _;have vV:aI ((w2.setCell ⟨w.heap.size,2,none⟩ (.slice A1 k n1)).setCell ⟨w.heap.size,3,none⟩ (.slice A2 l n2)) w.heap.size 203 3 js (.slice A2 l n2) ol:=bB (bB (fN.weak ma.size) hK2 ah _ _) hK3 ah _ _;have KG:af ((w2.setCell ⟨w.heap.size,2,none⟩ (.slice A1 k n1)).setCell ⟨w.heap.size,3,none⟩ (.slice A2 l n2)) (w.heap.size+1) 39 _:=(vU.far (p:=⟨w.heap.size,2,none⟩) aF _).far (p:=⟨w.heap.size,3,none⟩) aF _;have IG:=(qO.setCell (p:=⟨w.heap.size,2,none⟩) (aS _) (.slice A1 k n1)).setCell (p:=⟨w.heap.size,3,none⟩) (aS _) (.slice A2 l n2);generalize hw4:(w2.setCell ⟨w.heap.size,2,none⟩ (.slice A1 k n1)).setCell ⟨w.heap.size,3,none⟩ (.slice A2 l n2)=w4 at *;obtain⟨KD,-,YJ⟩:=af.aK hK4;obtain⟨hd4,hf4,hy4⟩:=af.aK KG;clear hw4 GD tV hK2 hK3 rE sW vU fI ma qO hb1 hb2 eo fN Q6 aaj acK acL acM km cY C1 C2;have jO:=aa hO1;have eu:=aa vV;have HB:=aa IG;have HQ:=aa KG;have H1:=aa hc1;have H2:=aa hc2;clear hO1 vV IG hc1 hc2 KG hK4;go_wp2_with fail;have hX:=gN HQ x g (.slice A1 k n1) (.slice A2 l n2) s;have l7:=fun i=>af.cell hX i;have e1:=dw jO HQ ah x g (.slice A1 k n1) (.slice A2 l n2) s;have e2:=dw eu HQ ah x g (.slice A1 k n1) (.slice A2 l n2) s;have e3:Below w w (gv w4 (w.heap.size+1) x g (.slice A1 k n1) (.slice A2 l n2) s):=eQ HB (bU _) x g (.slice A1 k n1) (.slice A2 l n2) s;change bodyPost _ _ _ _ _ (gv w4 (w.heap.size+1) x g (.slice A1 k n1) (.slice A2 l n2) s);generalize gv w4 (w.heap.size+1) x g (.slice A1 k n1) (.slice A2 l n2) s=wz at *;refine bodyPost_ret (v:=.agg #[x,g,.slice A1 k n1,.slice A2 l n2,s]) ?_ rfl ?_
  ·simp[results,results98,go_sem,l7]
  ·exact⟨_,rfl,A1,n1,A2,n2,rfl,e1,e2,e3⟩
theorem yJ(p:Mo.Pl)(A:Option Addr)(n:Nat)(B:Option Addr)(m:Nat)(h:L8 w p A n B m) :
 Calls prog 69 #[kJ p A n B m] w fun e w'=>∃v,e=.returned v/\ux (Mo.dN p) w v w':=by
 have C1:=aa (fun wx (hb:Below w w wx)=>nR wx p A n B m (h.below hb))
 unfold kJ ux kJ Mo.dN Mo.oK
 unfold ux kJ at C1
 clear h
 obtain⟨⟨x,g⟩,fr,ol,s⟩:=p
 dsimp only at *
 obtain⟨k,hk⟩:=aD fr.length
 obtain⟨l,hl⟩:=aD ol.length
 rw[<-hk, <-hl]at C1 ⊢
 clear hk hl
 have fI:Below w w ((w.alloc (pT x g A k n B l m s)).alloc tO):=ak (ak (aj w) _) _
 have rE:af ((w.alloc (pT x g A k n B l m s)).alloc tO) (w.heap.size+1) 39 _:=af.newAt _ _ _ aF
 go_enter func69,ntmps69
 go_wp2_with fail
 refine(C1 _ fI).mono ?_
 rintro e w1 ⟨v,rfl,A1,n1,B1,m1,hv,eo,fN,hb⟩
 subst hv
 have ma:=ag fI hb
 have sW:=rE.ag hb
 obtain⟨dh,cW,cY⟩:=af.aK sW
 have jO:=aa (eo.weak fI.size);have eu:=aa (fN.weak fI.size);have HB:=aa ma;have HQ:=aa sW
 clear eo fN hb ma sW fI rE C1
 go_wp2_with fail
 have hX:=gN HQ oZ oZ (.slice A1 k n1) (.slice B1 l m1) s
 have l7:=fun i=>af.cell hX i
 have e1:=dw jO HQ ah oZ oZ (.slice A1 k n1) (.slice B1 l m1) s
 have e2:=dw eu HQ ah oZ oZ (.slice A1 k n1) (.slice B1 l m1) s
 have e3:Below w w (gv w1 (w.heap.size+1) oZ oZ (.slice A1 k n1) (.slice B1 l m1) s):=eQ HB (bU _) oZ oZ (.slice A1 k n1) (.slice B1 l m1) s
 have hX:=hX.alloc (pT 0 0 A1 k n1 B1 l m1 s)
 have l7:=fun i=>af.cell hX i
 have e1:=aI.alloc e1 (pT 0 0 A1 k n1 B1 l m1 s)
 have e2:=aI.alloc e2 (pT 0 0 A1 k n1 B1 l m1 s)
 have e3:=ak e3 (pT 0 0 A1 k n1 B1 l m1 s)
 change bodyPost _ _ _ _ _ ((gv w1 (w.heap.size+1) oZ oZ (.slice A1 k n1) (.slice B1 l m1) s).alloc (pT 0 0 A1 k n1 B1 l m1 s))
 generalize(gv w1 (w.heap.size+1) oZ oZ (.slice A1 k n1) (.slice B1 l m1) s).alloc (pT 0 0 A1 k n1 B1 l m1 s)=wz at *
 refine bodyPost_ret (v:=.agg #[oZ,oZ,.slice A1 k n1,.slice B1 l m1,s]) ?_ rfl ?_
 ·simp[results,results69,go_sem,l7]
 ·exact⟨_,rfl,A1,n1,B1,m1,rfl,e1,e2,e3⟩
theorem IH:(prog.info? 203).map (fun i=>(i.zero,i.size,i.bytes))=some (some (.agg #[oZ,oZ,oZ]),3,24):=by kernel_rfl
theorem Ma(p:Mo.Pl)(A:Option Addr)(n:Nat)(B:Option Addr)(m:Nat)(h:L8 w p A n B m)(rx rt z:Int) :
 Calls prog 174 #[kJ p A n B m,.agg #[rx,rt],z] w fun e w'=>∃v,e=.returned v/\ux (Mo.lh p ⟨rx,rt⟩ z) w v w':=by
 have C1:=aa (fun wx (hb:Below w w wx)=>nR wx p A n B m (h.below hb))
 have HL:=aa h.Q5
 unfold kJ ux kJ Mo.lh
 unfold ux kJ at C1
 clear h
 obtain⟨⟨x,g⟩,fr,ol,s⟩:=p
 dsimp only at *
 obtain⟨l4,hl4⟩:=aD ((ol++[(⟨⟨rx,rt⟩,z⟩:Mo.Od)]).length)
 rw[<-hl4]
 have PD:=aa hl4
 clear hl4
 obtain⟨k,hk⟩:=aD fr.length
 obtain⟨l,hl⟩:=aD ol.length
 rw[<-hk, <-hl]at C1 ⊢
 have AJ:=aa hl
 clear hk hl
 have fI:Below w w (((w.alloc (pT x g A k n B l m s)).alloc (.cells #[rx,rt] 35)).alloc tO):=ak (ak (ak (aj w) _) _) _
 have rE:af (((w.alloc (pT x g A k n B l m s)).alloc (.cells #[rx,rt] 35)).alloc tO) (w.heap.size+1+1) 39 _:=af.newAt _ _ _ aF
 have fp:af (((w.alloc (pT x g A k n B l m s)).alloc (.cells #[rx,rt] 35)).alloc tO) (w.heap.size+1) 35 _:=(af.newAt _ _ _ aF).alloc _
 go_enter func174,ntmps174
 go_wp2_with fail
 refine(C1 _ fI).mono ?_
 rintro e w1 ⟨v,rfl,A1,n1,B1,m1,hv,eo,fN,hb⟩
 subst hv
 have ma:=ag fI hb
 have sW:=rE.ag hb
 have hR1:=fp.ag hb
 obtain⟨jG,-,hgr⟩:=af.aK hR1
 obtain⟨dh,cW,cY⟩:=af.aK sW
 have hz0:w.heap.size<=w1.heap.size:=ae
 have jO:=aa (eo.weak fI.size);have eu:=aa (fN.weak fI.size);have HB:=aa ma;have HQ:=aa sW
 clear eo fN hb ma sW hR1 fI rE fp C1
 go_wp2_with(at_builtin;refine cj _ rfl _ _ 37 rfl w.heap.size 203 3 24 (.agg #[oZ,oZ,oZ]) js rD vT underlying37 IH rfl ah _ ol rfl ?q1 (some ⟨w1.heap.size+1,0,none⟩) 1 1 [⟨⟨rx,rt⟩,z⟩] rfl rfl ?q2 ?c4 ?c5 ?c6 ?_)
 case q1=>exact(eu.alloc _).alloc _
 case q2=>exact Rd.Bd _ (js ⟨⟨rx,rt⟩,z⟩) _ aF
 case c4=>have:=HL.out;simp;omega
 case c5=>have:=HL.out;simp;omega
 case c6=>simp;omega
 intro v' w4 hown' hgrow hzz
 clear hzz
 obtain⟨B4,m4,hv4⟩:=hown'.shape
 rw[<-PD.out]at hv4
 subst hv4
 have sX:af ((w1.alloc (pT x g A1 k n1 B1 l m1 s)).alloc (.cells #[rx,rt,z] 203)) w1.heap.size 39 _:=(af.new _ _ _).alloc _
 have sf:af ((w1.alloc (pT x g A1 k n1 B1 l m1 s)).alloc (.cells #[rx,rt,z] 203)) (w.heap.size+1+1) 39 _:=(HQ.alloc _).alloc _
 have fN:=(eu.alloc (pT x g A1 k n1 B1 l m1 s)).alloc (.cells #[rx,rt,z] 203)
 have eo:=(jO.alloc (pT x g A1 k n1 B1 l m1 s)).alloc (.cells #[rx,rt,z] 203)
 have hb3:=ak (ak HB (pT x g A1 k n1 B1 l m1 s)) (.cells #[rx,rt,z] 203)
 have hP4:=sX.grown hgrow (aV fN sX ah)
 have KG:=sf.grown hgrow (aV fN sf ah)
 have xT:aI w4 w.heap.size 200 2 eL (.slice A1 k n1) fr:=jL eo hgrow (fun b hb=>cR eo fN ah hb)
 have hb4:=aI.br fN hb3 hgrow (by simp;omega) (aS _)
 have Mb:=hP4.bb 3 (.slice B4 l4 m4)
 have TN:af (w4.setCell ⟨w1.heap.size,3,none⟩ (.slice B4 l4 m4)) (w.heap.size+1+1) 39 _:=KG.far (p:=⟨w1.heap.size,3,none⟩) (by show w.heap.size+2≠w1.heap.size;omega) _
 have Dq:aI (w4.setCell ⟨w1.heap.size,3,none⟩ (.slice B4 l4 m4)) w.heap.size 200 2 eL (.slice A1 k n1) fr:=bB xT hP4 ah _ _
 have Q7:aI (w4.setCell ⟨w1.heap.size,3,none⟩ (.slice B4 l4 m4)) w.heap.size 203 3 js (.slice B4 l4 m4) (ol++[⟨⟨rx,rt⟩,z⟩]):=bB hown' hP4 ah _ _
 have di:=hb4.setCell (p:=⟨w1.heap.size,3,none⟩) hz0 (.slice B4 l4 m4)
 obtain⟨aA,bh,aU⟩:=af.aK hP4
 obtain⟨hcq4,hfq4,hgq4⟩:=af.aK KG
 have H5:=aa TN;have H6:=aa Dq;have H7:=aa Q7;have H8:=aa di
 clear hown' hgrow sX sf eo fN hb3 hP4 KG xT hb4 Mb TN Dq Q7 di dh cW jG jO eu HB HQ
 have hne:w.heap.size+1+1<w1.heap.size:=cY
 clear cY
 go_wp2_with fail
 have hX:=gN H5 x g (.slice A1 k n1) (.slice B4 l4 m4) s
 have l7:=fun i=>af.cell hX i
 have e1:=dw H6 H5 ah x g (.slice A1 k n1) (.slice B4 l4 m4) s
 have e2:=dw H7 H5 ah x g (.slice A1 k n1) (.slice B4 l4 m4) s
 have e3:Below w w (gv (w4.setCell ⟨w1.heap.size,3,none⟩ (.slice B4 l4 m4)) (w.heap.size+1+1) x g (.slice A1 k n1) (.slice B4 l4 m4) s):=eQ H8 (Nat.le_add_right _ 2) x g (.slice A1 k n1) (.slice B4 l4 m4) s
 change bodyPost _ _ _ _ _ (gv (w4.setCell ⟨w1.heap.size,3,none⟩ (.slice B4 l4 m4)) (w.heap.size+1+1) x g (.slice A1 k n1) (.slice B4 l4 m4) s)
 generalize gv (w4.setCell ⟨w1.heap.size,3,none⟩ (.slice B4 l4 m4)) (w.heap.size+1+1) x g (.slice A1 k n1) (.slice B4 l4 m4) s=wz at *
 refine bodyPost_ret (v:=.agg #[x,g,.slice A1 k n1,.slice B4 l4 m4,s]) ?_ rfl ?_
 ·simp[results,results174,go_sem,l7]
 ·exact⟨_,rfl,A1,n1,B4,m4,rfl,e1,e2,e3⟩
end
def iV(tags:Int)(own:Mo.Rf)(fr:List Mo.Rf)(s:Int):Mo.Rf×List Mo.Rf×Int:=if own.tag=0 then((Mo.dt tags fr).1,(Mo.dt tags fr).2.1,s+(Mo.dt tags fr).2.2)else(own,fr,s)
theorem Ew{x:Mo.Rf}{fr:List Mo.Rf}{s:Int}(h0:own.tag=0)(h:(Mo.ej x tags).2=true)(hn:(Mo.ej x tags).1.tag≠0):iV tags own (x::fr) s=iV tags (Mo.ej x tags).1 fr s:=by
 unfold iV;rw[au h0,ai hn];have e:Mo.dt tags (x::fr)=((Mo.ej x tags).1,fr,0):=by show(if(Mo.ej x tags).2=true then _ else _)=_;rw[au h]
 rw[e];simp
theorem II{x:Mo.Rf}{fr:List Mo.Rf}{s:Int}(h0:own.tag=0)(h:(Mo.ej x tags).2=false):iV tags own (x::fr) s=iV tags own fr (s+1):=by
 unfold iV;rw[au h0,au h0];have e:Mo.dt tags (x::fr)=((Mo.dt tags fr).1,(Mo.dt tags fr).2.1,(Mo.dt tags fr).2.2+1):=by show(if(Mo.ej x tags).2=true then _ else _)=_;rw[ai (by rw[h];decide)]
 rw[e];simp;omega
theorem IJ{x:Mo.Rf}(h:(Mo.ej x tags).2=true):(Mo.ej x tags).1.tag≠0/\(Mo.ej x tags).1.tag<=4294967295:=by
 unfold Mo.ej at h ⊢;split at h
 ·cases h
 ·rename_i h1;rw[ai h1];split at h
  ·rename_i h2;rw[au h2];unfold Mo.iI at h2;simp at h2;dsimp only;omega
  ·cases h
def Md(w:World)(g:Nat):Nat:=match w.cell? ⟨g,2,none⟩with|some (.slice _ n _)=>n|_=>0
theorem rF{a b d e:Value}{t:TypeId}(h:af w g t #[a,b,.slice A k n,d,e]):Md w g=k:=by unfold Md;rw[h.cell];rfl
structure TkL (w wr:World) (g q:Nat) (tags:Int) (R:Mo.Rf×List Mo.Rf×Int) (ol:List Mo.Od) (B:Option Addr) (l m:Nat) (own:Mo.Rf) (fr:List Mo.Rf) (A:Option Addr) (k n:Nat) (s:Int):Prop where
 blk:af wr g 39 #[.int .i64 own.ix,.int .i64 own.tag,.slice A k n,.slice B l m,.int .i64 s]
 res:af wr q 39 #[.int .i64 0,.int .i64 0,.slice none 0 0,.slice none 0 0,.int .i64 0]
 len:k=fr.length
 cap:k<=n
 rd:cN wr eL A fr
 loop:iV tags own fr s=R
 old:aI wr w.heap.size 203 3 js (.slice B l m) ol
 ext:Below w.heap.size w wr
 small:∀s∈fr,s.tag<=4294967295
 empty:own.tag=0->own.ix=0
 far:q<g
 off:∀ad,A=some ad->ad.block≠g
def TkR(w wr:World)(g q:Nat)(tags:Int)(R:Mo.Rf×List Mo.Rf×Int)(ol:List Mo.Od)(B:Option Addr)(l m:Nat):Prop:=∃(own:Mo.Rf) (fr:List Mo.Rf) (A:Option Addr) (k n:Nat) (s:Int),0<=s/\s+(k:Int)<=2000000/\k<=100000/\TkL w wr g q tags R ol B l m own fr A k n s
def mf(A:Option Addr)(c m sz:Nat):Option Addr:=if c=m then A else A.map (·.add (m*sz))
theorem IK(hf:∀c,(f c).length=sz):∀(m:Nat) (xs:List α),(xs.drop m).flatMap f=(xs.flatMap f).drop (m*sz):=by
 intro m;induction m with
 |zero=>intro xs;simp
 |succ m ih =>
  intro xs;rcases xs with _|⟨x,xs⟩
  ·simp
  ·rw[List.drop_succ_cons,ih,List.flatMap_cons,Nat.add_mul,Nat.one_mul,Nat.add_comm, <-List.drop_drop,List.drop_left' (hf x)]
theorem cN.drop(hf:∀c,(f c).length=sz){xs:List α}{c:Nat}(h:cN w f A xs)(hc:xs.length<=c)(m:Nat):cN w f (mf A c m sz) (xs.drop m):=by
 by_cases hm:c=m
 ·have:xs.drop m=[]:=List.drop_of_length_le ae;rw[this];exact cN.nil _ _ _
 ·unfold mf;rw[ai hm];unfold cN;rw[IK hf];intro j u hu;rw[List.getElem?_drop]at hu;obtain⟨ad,h1,h2⟩:=h (m*sz+j) u hu;subst h1;exact⟨_,rfl,by rw[qW];exact h2⟩
theorem jt(t e:TypeId){z:Value}{by_:Nat}(ht:P.underlying t=some (.slice e))(hi:(P.info? e).map (fun i=>(i.zero,i.size,i.bytes))=some (some z,sz,by_))(A:Option Addr)(n c m:Nat)(X:Int)(hX:X=(m:Int))(hm:m<=n)(w:World) :
 (Instr.slice t (.slice A n c) (some (.int .i64 X)) none none).run P w=.ok (.slice (mf A c m sz) (n-m) (c-m)) w:=by
 subst hX
 obtain⟨i,iY,_,qf,_⟩:=info_parts hi
 have h0:0<=(m:Int)/\(m:Int)<=(n:Int):=ae
 simp[Instr.slice,Instr.sliceBounds,run_underlying ht,sizeOf,typeInfo,iY,run_sliceBound_if,h0,qf,mf]
theorem Rd.move{U:Nat->Prop}{xs:List Value}(h:Rd w A xs)(hf:∀b,b<w.heap.size->¬U b->w'.heap[b]?=w.heap[b]?)(hs:∀ad,A=some ad->xs≠[]->¬U ad.block):Rd w' A xs:=by
 intro i u hu;obtain⟨ad,h1,h2⟩:=h i u hu;have hne:xs≠[]:=by rintro rfl;simp at hu
 refine⟨ad,h1,?_⟩;have hb:(ad.add i).block=ad.block:=by unfold Addr.add;split<;>rfl
 have h3:=hf (ad.add i).block (bc h2) (by rw[hb];exact hs ad h1 hne);unfold World.cell? at h2 ⊢;rw[h3];exact h2
theorem tW{c:Nat}{ad:Addr}(h:mf A c m sz=some ad):∃a,A=some a/\a.block=ad.block:=by
 unfold mf at h;split at h
 ·exact⟨ad,h,rfl⟩
 ·rcases A with _|a
  ·cases h
  ·simp at h;subst h;refine⟨a,rfl,?_⟩;unfold Addr.add;split<;>rfl
theorem TkL.next{q:Nat}{R:Mo.Rf×List Mo.Rf×Int}{ol:List Mo.Od}{B:Option Addr}{l:Nat}{IL z:Mo.Rf}{fr:List Mo.Rf}{s s':Int}(h:TkL w wr g q tags R ol B l m own (z::fr) A k n s)(hf:∀b,b<wr.heap.size->b≠g->w2.heap[b]?=wr.heap[b]?)(hb:Below w.heap.size w w2)(hblk:af w2 g 39 #[.int .i64 IL.ix,.int .i64 IL.tag,.slice (mf A n 1 2) (k-1) (n-1),.slice B l m,.int .i64 s'])(hl:iV tags own (z::fr) s=iV tags IL fr s')(he:IL.tag=0->IL.ix=0):TkL w w2 g q tags R ol B l m IL fr (mf A n 1 2) (k-1) (n-1) s':=by
 have hk:=h.len
 have hc:=h.cap
 refine⟨hblk,(hf _ h.res.lt (by have:=h.far;omega)).trans h.res,by rw[hk];rfl,ae,?_,by rw[<-hl];exact h.loop,?_,hb,fun x hx=>h.small x (List.mem_cons_of_mem _ hx),he,h.far,?_⟩
 ·have:=h.rd.drop mZ (c:=n) (by rw[<-hk];exact hc) 1;refine Rd.move (U:=fun b=>b=g) this hf (fun ad ha _=>?_);obtain⟨a,ha',hb'⟩:=tW ha;rw[<-hb'];exact h.off a ha'
 ·obtain⟨h1,h2⟩:=h.old;refine⟨h1,?_⟩;rcases h2 with h2|⟨g',cap,cur,hv,nP,hh,r⟩
  ·exact .inl h2
  ·refine .inr ⟨g',cap,cur,hv,nP,?_,r⟩;rw[hf g' (af.DN hh) ?_]
   ·exact hh
   ·rintro rfl;have:=h.blk;unfold af at this;rw[hh]at this;injection this with this
    injection this with _ ht
    exact absurd ht ah
 ·intro ad ha;obtain⟨a,ha',hb'⟩:=tW ha;rw[<-hb'];exact h.off a ha'
theorem aI.drewN{cs:List α}(h:aI w base e m f v cs)(q:Nat):aI (w.drewN q) base e m f v cs:=h.ag (bO (aj w) q)
theorem qz:(prog.info? 200).map (fun i=>(i.zero,i.size,i.bytes))=some (some (.agg #[.int .i64 0,.int .i64 0]),2,16):=by kernel_rfl
section
variable(w:World)
theorem Me(p:Mo.Pl)(A:Option Addr)(n:Nat)(B:Option Addr)(m:Nat)(tags:Int)(h:L8 w p A n B m)(ho:p.own.tag=0->p.own=Mo.oK)(hs:∀s∈p.free,s.tag<=4294967295)(h0:0<=p.spent)(h1:p.spent<=1000000) :
 Calls prog 203 #[kJ p A n B m,.int .i64 tags] w fun e w'=>∃v,e=.returned (.tuple #[v,.bool (Mo.jI p tags).2])/\ux (Mo.jI p tags).1 w v w':=by
 have C1:=aa (fun wx (hb:Below w.heap.size w wx)=>nR wx p A n B m (h.below hb))
 have HL:=aa h.Q4
 unfold kJ ux kJ
 unfold ux kJ at C1
 clear h
 obtain⟨⟨x,g⟩,fr,ol,s⟩:=p
 dsimp only at *
 obtain⟨R,hR⟩:=aD (iV tags ⟨x,g⟩ fr s)
 have HT:Hid (Mo.jI ⟨⟨x,g⟩,fr,ol,s⟩ tags=(⟨R.1,R.2.1,ol,R.2.2⟩,R.1.tag !=0)):=by
  unfold Hid;rw[hR];unfold Mo.jI iV;dsimp only;by_cases hg:g=0
  ·rw[au hg,au hg]
  ·rw[ai hg,ai hg];have:(g !=0)=true:=by simpa using hg
   rw[this]
 rw[HT.out]
 dsimp only
 have HR:=aa hR.symm
 have HO:Hid (g=0->x=0):=fun hg=>congrArg Mo.Rf.ix (ho hg)
 clear ho HT hR
 obtain⟨l,hl⟩:=aD ol.length
 obtain⟨k,hk⟩:=aD fr.length
 rw[<-hl, <-hk]
 rw[<-hk, <-hl]at C1
 have HK:=aa hk
 have HS:=aa hs
 rw[<-hk]at HL
 clear hl hk hs
 have fI:Below w.heap.size w ((w.alloc (pT x g A k n B l m s)).alloc tO):=ak (ak (aj w) _) _
 have rE:af ((w.alloc (pT x g A k n B l m s)).alloc tO) (w.heap.size+1) 39 _:=af.newAt _ _ _ aF
 go_enter func203,ntmps203
 go_wp2_with fail
 refine(C1 _ fI).mono ?_
 rintro e w1 ⟨v,rfl,A1,n1,B1,m1,hv,eo,fN,hb⟩
 subst hv
 have ma:=ag fI hb
 have sW:=rE.ag hb
 have cY:=sW.lt
 have T0:TkR w (w1.alloc (pT x g A1 k n1 B1 l m1 s)) w1.heap.size (w.heap.size+1) tags R ol B1 l m1:=by
  have hk:=HK.out;have Q8:=eo;rw[hk]at Q8;obtain⟨c1,c2⟩:=Q8.xO;have kg:k<=n1:=by have:=Q8.cap.2;omega
  exact⟨⟨x,g⟩,fr,A1,k,n1,s,h0,by have:=HL.out;omega,HL,af.new _ _ _,sW.alloc _,hk,kg,(c2.alloc _),HR,(fN.weak fI.size).alloc _,ak ma _,HS,HO,cY,fun ad had=>by subst had;have:=(aX Q8 (g:=ad.block) rfl).2;omega⟩
 have KH:=aa T0
 clear T0 hb sW ma eo fN fI rE C1 HL HR HO HS
 go_wp2_with fail
 go_loopw[7] (fun _ wr=>TkR w wr w1.heap.size (w.heap.size+1) tags R ol B1 l m1) (fun _ wr=>Md wr w1.heap.size)
 case atStart=>exact KH.out
 case round =>
  obtain⟨own,Dr,A',k',n',s',hs0,hs1,hs2,HH⟩:=hrel;obtain⟨aA,bh,aU⟩:=af.aK HH.blk;obtain⟨dh,cW,-⟩:=af.aK HH.res;have acN:=HH.res.lt;have H:=aa HH;clear HH;by_cases ht:own.tag=0
  ·by_cases kS:k'=0
   ·subst kS;have d1:(own.tag==0)=true:=by rw[ht];rfl
    have AQ:=aa ht;clear ht;have HX:Hid (iV tags own Dr s'=(own,Dr,s')):=by have e0:=H.empty AQ;have e1:Dr=[]:=List.eq_nil_of_length_eq_zero (H.len.symm);unfold Hid iV;rw[au AQ.out,e1];obtain⟨ox,og⟩:=own;have e2:og=0:=AQ.out;dsimp only at e0;subst e0 e2;simp[Mo.dt,Mo.oK]
    have rG:Hid (0<=1000000):=aY _;go_wp2_with fail;refine(oT wr A' n' Dr H.len rG H.rd).mono ?_;rintro e w2 ⟨A2,n2,rfl,hc2,fN,hb2⟩;have Ds:=H.blk.ag hb2;have vU:=H.res.ag hb2;have vV:=H.old.ag hb2;have qO:=ag H.ext hb2;have hF2:=fN.weak H.ext.size;obtain⟨hcp2,hfp2,BK⟩:=af.aK Ds;clear aA bh dh cW;go_wp2_with fail;have PE:=Ds.bb 2 (.slice A2 0 n2);have sf:=vU.far (p:=⟨w1.heap.size,2,none⟩) (by have:=H.far;show w.heap.size+1≠w1.heap.size;omega) (.slice A2 0 n2);have yK:aI _ w.heap.size 203 3 js (.slice B1 l m1) ol:=bB vV Ds ah 2 (.slice A2 0 n2);have zW:aI _ w.heap.size 200 2 eL (.slice A2 0 n2) Dr:=bB hF2 Ds ah 2 (.slice A2 0 n2);have oU:=qO.setCell (p:=⟨w1.heap.size,2,none⟩) (by have:=H.far;show w.heap.size<=w1.heap.size;omega) (.slice A2 0 n2);generalize hw3:w2.setCell ⟨w1.heap.size,2,none⟩ (.slice A2 0 n2)=w3 at *;obtain⟨hcp3,-,hgp3⟩:=af.aK PE;obtain⟨Ex,Mf,Ey⟩:=af.aK sf;have jc:=aa sf;have iP:=aa yK;have sg:=aa zW;have bZ:=aa oU;have iq:=aa hc2;have Mg:=H.far;clear hw3 Ds vU vV qO hF2 hcp2 hfp2 BK PE sf yK zW oU fN hb2 hc2;go_region;go_wp2_with fail;have hX:=(gN jc (.int .i64 own.ix) (.int .i64 own.tag) (.slice A2 0 n2) (.slice B1 l m1) (.int .i64 s')).drewN 1;have e1:aI (World.drewN (gv w3 (w.heap.size+1) (.int .i64 own.ix) (.int .i64 own.tag) (.slice A2 0 n2) (.slice B1 l m1) (.int .i64 s')) 1) w.heap.size 200 2 eL (.slice A2 0 n2) Dr:=aI.drewN (dw sg jc ah _ _ _ _ _) 1;have e2:aI (World.drewN (gv w3 (w.heap.size+1) (.int .i64 own.ix) (.int .i64 own.tag) (.slice A2 0 n2) (.slice B1 l m1) (.int .i64 s')) 1) w.heap.size 203 3 js (.slice B1 l m1) ol:=aI.drewN (dw iP jc ah _ _ _ _ _) 1;have e3:Below w.heap.size w (World.drewN (gv w3 (w.heap.size+1) (.int .i64 own.ix) (.int .i64 own.tag) (.slice A2 0 n2) (.slice B1 l m1) (.int .i64 s')) 1):=bO (eQ bZ (bU _) _ _ _ _ _) 1;have hR':R=(own,Dr,s'):=H.loop.symm.trans HX;have xz:=H.len;change bodyPost _ _ _ _ _ (World.drewN (gv w3 (w.heap.size+1) (.int .i64 own.ix) (.int .i64 own.tag) (.slice A2 0 n2) (.slice B1 l m1) (.int .i64 s')) 1);generalize World.drewN (gv w3 (w.heap.size+1) (.int .i64 own.ix) (.int .i64 own.tag) (.slice A2 0 n2) (.slice B1 l m1) (.int .i64 s')) 1=wz at *;have l7:=fun i=>af.cell hX i;clear hcp3 hgp3 Ex Mf Ey d1;subst hR';refine bodyPost_ret (v:=.tuple #[.agg #[.int .i64 own.ix,.int .i64 own.tag,.slice A2 0 n2,.slice B1 l m1,.int .i64 s'],.bool (own.tag !=0)]) ?_ rfl ?_
    ·simp[results,results203,go_sem,l7]
    ·rw[<-xz];exact⟨_,rfl,A2,n2,B1,m1,rfl,e1,e2,e3⟩
   ·
    obtain⟨z,GF,si⟩:∃z GF,Dr=z::GF:=by
     rcases hq:Dr with _|⟨z,GF⟩
     ·exfalso;have:=H.len;rw[hq]at this;exact kS this
     ·exact⟨z,GF,rfl⟩
    have AQ:=aa ht
    clear ht
    subst si
    have d1:(own.tag==0)=true:=by rw[AQ.out];rfl
    have d2:0<k':=ae
    have d3:(0:Int)<k':=ae
    obtain⟨ad,c,hA,hc,hcell⟩:=cN.at_ mZ ah H.rd (i:=0) aF
    simp at hc
    subst hc
    have c0:=hcell 0 _ rfl
    have c1:=hcell 1 _ rfl
    simp only[Nat.zero_mul,add_zero]at c0 c1
    rw[add_lit _ _ ah]at c1
    clear hcell
    subst hA
    have PA:=jt (P:=prog) 36 200 underlying36 qz (some ad) k' n' 1 1 rfl ae
    have HZ:=aa (H.small z List.mem_cons_self)
    go_wp2_with fail
    refine(Hz _ z.ix z.tag tags HZ).mono ?_
    rintro e w2 ⟨rfl,hb2⟩
    have hGx:=(H.blk.bb 2 (.slice (mf (some ad) n' 1 2) (k'-1) (n'-1))).alloc (.cells #[.int .i64 z.ix,.int .i64 z.tag] 200)
    have Ds:=hGx.ag hb2
    have Dl:=Ds.lt
    obtain⟨hcp2,hfp2,-⟩:=af.aK Ds
    have hle:w.heap.size<=w1.heap.size:=by have:=H.far;omega
    have qO:Below w.heap.size w w2:=ag (ak (H.ext.setCell (p:=⟨w1.heap.size,2,none⟩) hle _) _) hb2
    have hF2:∀b,b<wr.heap.size->b≠w1.heap.size->w2.heap[b]?=wr.heap[b]?:=fun b hb hne=>(hb2.block b (by simp;omega)).trans ((Below.heap_alloc _ _ _ (by simpa using hb)).trans (dp _ _ _ _ hne))
    have hsz:wr.heap.size<=w2.heap.size:=by have:=hb2.size;simp at this;omega
    have HG2:=aa Ds;have bq:=aa qO;have p3:=aa hF2;have xA:=aa hsz;have HLE:=aa hle
    clear hGx Ds qO hF2 hb2 hsz hle c0 c1 PA aA bh dh cW acN
    obtain⟨nr,hnr⟩:=aD (Mo.ej z tags)
    have aak:Mo.ej ⟨z.ix,z.tag⟩ tags=nr:=hnr.symm
    rw[aak]
    have TP:=aa hnr
    clear hnr aak
    obtain⟨⟨rx,rt⟩,ok⟩:=nr
    dsimp only
    cases ok with
    |true =>
     go_wp2_with fail;go_roundw;case rel =>
      have sY:(Mo.ej z tags).2=true:=by rw[<-TP.out]
      have nS:(Mo.ej z tags).1=⟨rx,rt⟩:=by rw[<-TP.out]
      have h5:=IJ sY;have h6:=Ew (fr:=GF) (s:=s') AQ sY h5.1;rw[nS]at h5 h6;have zH:wr.heap.size<=w2.heap.size:=xA.out;exact⟨⟨rx,rt⟩,GF,_,k'-1,n'-1,s',hs0,ae,ae,H.next (fun b hb hne=>by
       rw[Below.heap_alloc _ _ _ (by simp;omega),dp _ _ _ _ hne,dp _ _ _ _ hne];exact p3.out b hb hne)
       (ak ((bq.setCell (p:=⟨w1.heap.size,0,none⟩) HLE _).setCell (p:=⟨w1.heap.size,1,none⟩) HLE _) _) (((HG2.bb 0 (.int .i64 rx)).bb 1 (.int .i64 rt)).alloc _) h6 (fun h0=>absurd h0 h5.1)⟩
     case measure=>rw[rF H.out.blk,rF (((HG2.out.bb 0 (.int .i64 rx)).bb 1 (.int .i64 rt)).alloc _)];omega
    |false =>
     have adQ:s'<=2000000:=ae;go_wp2_with fail;go_roundw;case rel =>
      have sY:(Mo.ej z tags).2=false:=by rw[<-TP.out]
      have h6:=II (fr:=GF) (s:=s') AQ sY;have zH:wr.heap.size<=w2.heap.size:=xA.out;exact⟨own,GF,_,k'-1,n'-1,s'+1,ae,ae,ae,H.next (fun b hb hne=>by
       rw[Below.heap_alloc _ _ _ (by simp;omega),dp _ _ _ _ hne];exact p3.out b hb hne)
       (ak (bq.setCell (p:=⟨w1.heap.size,4,none⟩) HLE _) _) ((HG2.bb 4 (.int .i64 (s'+1))).alloc _) h6 H.empty⟩
     case measure=>rw[rF H.out.blk,rF ((HG2.out.bb 4 (.int .i64 (s'+1))).alloc _)];omega
  ·have d1:(own.tag==0)=false:=by simpa using ht
   have AQ:=aa ht;clear ht;have HX:Hid (iV tags own Dr s'=(own,Dr,s')):=by unfold Hid iV;rw[ai AQ.out]
   have rG:Hid (k'<=1000000):=by unfold Hid;omega
   go_wp2_with fail;refine(oT wr A' n' Dr H.len rG H.rd).mono ?_;rintro e w2 ⟨A2,n2,rfl,hc2,fN,hb2⟩;have Ds:=H.blk.ag hb2;have vU:=H.res.ag hb2;have vV:=H.old.ag hb2;have qO:=ag H.ext hb2;have hF2:=fN.weak H.ext.size;obtain⟨hcp2,hfp2,BK⟩:=af.aK Ds;clear aA bh dh cW;go_wp2_with fail;have PE:=Ds.bb 2 (.slice A2 k' n2);have sf:=vU.far (p:=⟨w1.heap.size,2,none⟩) (by have:=H.far;show w.heap.size+1≠w1.heap.size;omega) (.slice A2 k' n2);have yK:aI _ w.heap.size 203 3 js (.slice B1 l m1) ol:=bB vV Ds ah 2 (.slice A2 k' n2);have zW:aI _ w.heap.size 200 2 eL (.slice A2 k' n2) Dr:=bB hF2 Ds ah 2 (.slice A2 k' n2);have oU:=qO.setCell (p:=⟨w1.heap.size,2,none⟩) (by have:=H.far;show w.heap.size<=w1.heap.size;omega) (.slice A2 k' n2);generalize hw3:w2.setCell ⟨w1.heap.size,2,none⟩ (.slice A2 k' n2)=w3 at *;obtain⟨hcp3,-,hgp3⟩:=af.aK PE;obtain⟨Ex,Mf,Ey⟩:=af.aK sf;have jc:=aa sf;have iP:=aa yK;have sg:=aa zW;have bZ:=aa oU;have iq:=aa hc2;have Mg:=H.far;clear hw3 Ds vU vV qO hF2 hcp2 hfp2 BK PE sf yK zW oU fN hb2 hc2;go_region;go_wp2_with fail;have hX:=(gN jc (.int .i64 own.ix) (.int .i64 own.tag) (.slice A2 k' n2) (.slice B1 l m1) (.int .i64 s')).drewN 1;have e1:aI (World.drewN (gv w3 (w.heap.size+1) (.int .i64 own.ix) (.int .i64 own.tag) (.slice A2 k' n2) (.slice B1 l m1) (.int .i64 s')) 1) w.heap.size 200 2 eL (.slice A2 k' n2) Dr:=aI.drewN (dw sg jc ah _ _ _ _ _) 1;have e2:aI (World.drewN (gv w3 (w.heap.size+1) (.int .i64 own.ix) (.int .i64 own.tag) (.slice A2 k' n2) (.slice B1 l m1) (.int .i64 s')) 1) w.heap.size 203 3 js (.slice B1 l m1) ol:=aI.drewN (dw iP jc ah _ _ _ _ _) 1;have e3:Below w.heap.size w (World.drewN (gv w3 (w.heap.size+1) (.int .i64 own.ix) (.int .i64 own.tag) (.slice A2 k' n2) (.slice B1 l m1) (.int .i64 s')) 1):=bO (eQ bZ (bU _) _ _ _ _ _) 1;have hR':R=(own,Dr,s'):=H.loop.symm.trans HX;have xz:=H.len;change bodyPost _ _ _ _ _ (World.drewN (gv w3 (w.heap.size+1) (.int .i64 own.ix) (.int .i64 own.tag) (.slice A2 k' n2) (.slice B1 l m1) (.int .i64 s')) 1);generalize World.drewN (gv w3 (w.heap.size+1) (.int .i64 own.ix) (.int .i64 own.tag) (.slice A2 k' n2) (.slice B1 l m1) (.int .i64 s')) 1=wz at *;have l7:=fun i=>af.cell hX i;clear hcp3 hgp3 Ex Mf Ey d1;subst hR';refine bodyPost_ret (v:=.tuple #[.agg #[.int .i64 own.ix,.int .i64 own.tag,.slice A2 k' n2,.slice B1 l m1,.int .i64 s'],.bool (own.tag !=0)]) ?_ rfl ?_
   ·simp[results,results203,go_sem,l7]
   ·rw[<-xz];exact⟨_,rfl,A2,n2,B1,m1,rfl,e1,e2,e3⟩
end
structure Mh (w wr:World) (g q:Nat) (x t s:Int) (fr:List Mo.Rf) (ol:List Mo.Od) (f:Mo.Od->Bool) (P0:Array Value) (k:Nat) (vF vO:Value) (LF:List Mo.Rf) (LO:List Mo.Od):Prop where
 blk:af wr g 39 #[x,t,vF,vO,s]
 res:af wr q 39 #[oZ,oZ,oN,oN,oZ]
 par:af wr w.heap.size 39 P0
 oF:aI wr w.heap.size 200 2 eL vF LF
 oO:aI wr w.heap.size 203 3 js vO LO
 lf:LF=fr++((ol.take k).filter f).map (·.ref)
 lo:LO=(ol.take k).filter fun o=> !f o
 ext:Below w w wr
 far:q<g
 fal:w.heap.size<q
section
variable{w wr w':World} {g q:Nat} {x t s:Int} {fr:List Mo.Rf} {ol:List Mo.Od} {f:Mo.Od->Bool} {P0:Array Value} {k:Nat} {vF vO:Value} {LF:List Mo.Rf} {LO:List Mo.Od}
theorem Mh.more(h:Mh w wr g q x t s fr ol f P0 k vF vO LF LO)(hb:Below wr wr w'):Mh w w' g q x t s fr ol f P0 k vF vO LF LO:=⟨h.blk.ag hb,h.res.ag hb,h.par.ag hb,h.oF.ag hb,h.oO.ag hb,h.lf,h.lo,ag h.ext hb,h.far,h.fal⟩
theorem Mh.aal{o:Mo.Od}(h:Mh w wr g q x t s fr ol f P0 k vF vO LF LO)(ho:ol[k]?=some o)(hf:f o=true)(hown:aI w4 w.heap.size 200 2 eL v4 (LF++[o.ref]))(hg:wr.grownBy w4 vF.ownBlock) :
 Mh w (w4.setCell ⟨g,2,none⟩ v4) g q x t s fr ol f P0 (k+1) v4 vO (LF++[o.ref]) LO:=by
 have hB:=h.blk.grown hg (aV h.oF h.blk ah)
 have hR:=h.res.grown hg (aV h.oF h.res ah)
 have hP:=h.par.grown hg (aV h.oF h.par ah)
 have hO:=jL h.oO hg (fun b hb=>cR h.oO h.oF ah hb)
 have Mg:=h.far
 have acO:=h.fal
 refine⟨hB.bb 2 v4,hR.far (p:=⟨g,2,none⟩) (by show q≠g;omega) _,hP.far (p:=⟨g,2,none⟩) (by show w.heap.size≠g;omega) _,bB hown hB ah _ _,bB hO hB ah _ _,?_,?_,
  (aI.br h.oF h.ext hg (by have:=h.ext.size;omega) (aS _)).setCell (p:=⟨g,2,none⟩) (by show w.heap.size<=g;omega) _,h.far,h.fal⟩
 ·rw[h.lf,fz ho,List.filter_append,List.map_append,List.append_assoc];simp[hf]
 ·rw[h.lo,fz ho,List.filter_append];simp[hf]
theorem Mh.left{o:Mo.Od}(h:Mh w wr g q x t s fr ol f P0 k vF vO LF LO)(ho:ol[k]?=some o)(hf:f o=false)(hown:aI w4 w.heap.size 203 3 js v4 (LO++[o]))(hg:wr.grownBy w4 vO.ownBlock) :
 Mh w (w4.setCell ⟨g,3,none⟩ v4) g q x t s fr ol f P0 (k+1) vF v4 LF (LO++[o]):=by
 have hB:=h.blk.grown hg (aV h.oO h.blk ah)
 have hR:=h.res.grown hg (aV h.oO h.res ah)
 have hP:=h.par.grown hg (aV h.oO h.par ah)
 have hO:=jL h.oF hg (fun b hb=>cR h.oF h.oO ah hb)
 have Mg:=h.far
 have acO:=h.fal
 refine⟨hB.bb 3 v4,hR.far (p:=⟨g,3,none⟩) (by show q≠g;omega) _,hP.far (p:=⟨g,3,none⟩) (by show w.heap.size≠g;omega) _,bB hO hB ah _ _,bB hown hB ah _ _,?_,?_,
  (aI.br h.oO h.ext hg (by have:=h.ext.size;omega) (aS _)).setCell (p:=⟨g,3,none⟩) (by show w.heap.size<=g;omega) _,h.far,h.fal⟩
 ·rw[h.lf,fz ho,List.filter_append];simp[hf]
 ·rw[h.lo,fz ho,List.filter_append];simp[hf]
end
def tX(b:Bool)(w:World)(e:Ending)(w':World):Prop:=e=.returned b/\Below w w w'
def PlN(p:Mo.Pl)(w:World)(e:Ending)(w':World):Prop:=∃v z,e=.returned (.tuple #[v,z])/\ux p w v w'
section
variable(w:World)
theorem IM:(prog.info? 203).map (fun i=>(i.zero,i.size,i.bytes))=some (some (.agg #[oZ,oZ,oZ]),3,24):=by kernel_rfl
theorem BL(f:FuncId)(hf:f=215\/f=218)(b5:Nat)(test:Mo.Od->Bool)(p:Mo.Pl)(A:Option Addr)(n:Nat)(B:Option Addr)(m:Nat)(h:L8 w p A n B m)(HC:∀(o:Mo.Od) (wx:World),Below w w wx->Calls prog f #[.agg #[o.ref.ix,o.ref.tag,o.fD],.pointer b5] wx (tX (test o) wx)) :
 Calls prog 214 #[kJ p A n B m,.func (.func f) #[] #[.pointer b5]] w (PlN (Mo.j7 p test) w):=by
 have C1:=aa (fun wx (hb:Below w w wx)=>nR wx p A n B m (h.below hb))
 have HLF:=aa h.Q4
 have pH:=aa h.Q5
 have HRO:=aa (fun wx (hb:Below w w wx)=>h.rdO.below hb)
 have HF:=aa HC
 unfold kJ
 unfold ux kJ at C1
 clear h HC
 obtain⟨⟨x,g⟩,fr,ol,s⟩:=p
 dsimp only at *
 obtain⟨l,hl⟩:=aD ol.length
 obtain⟨k,hk⟩:=aD fr.length
 rw[<-hl, <-hk]
 rw[<-hk, <-hl]at C1
 rw[<-hk]at HLF
 rw[<-hl]at pH
 have HK:=aa hk
 have HL:=aa hl
 have hl1:=pH.out
 clear hl hk
 have fI:Below w w ((w.alloc (pT x g A k n B l m s)).alloc tO):=ak (ak (aj w) _) _
 have YK:af ((w.alloc (pT x g A k n B l m s)).alloc tO) w.heap.size 39 _:=(af.new _ _ _).alloc _
 have rE:af ((w.alloc (pT x g A k n B l m s)).alloc tO) (w.heap.size+1) 39 _:=af.newAt _ _ _ aF
 rcases hf with rfl|rfl
 all_goals
  go_enter func214,ntmps214;go_wp2_with fail;refine(C1 _ fI).mono ?_;rintro e w1 ⟨v,rfl,A1,n1,B1,m1,hv,eo,fN,hb⟩;subst hv;have sX:=YK.ag hb;obtain⟨aA,-,aU⟩:=af.aK sX;have T0:Mh w (w1.alloc (pT x g A1 k n1 none 0 0 s)) w1.heap.size (w.heap.size+1) x g s fr ol test #[x,g,.slice A k n,.slice B l m,s] 0 (.slice A1 k n1) oN fr []:=⟨af.new _ _ _,(rE.ag hb).alloc _,sX.alloc _,(eo.weak fI.size).alloc _,aI.nil _ _ _ _ _,aF,aF,ak (ag fI hb) _,(rE.ag hb).lt,Nat.lt_succ_self _⟩
  have KH:=aa T0;clear T0 hb eo fN C1 sX;go_wp2_with fail;go_loopw[15] (fun i wr=>∃(j:Nat) (vF vO:Value) (LF:List Mo.Rf) (LO:List Mo.Od),j<=l/\i=j/\LF.length<=100000+j/\LO.length<=j/\Hid (Mh w wr w1.heap.size (w.heap.size+1) x g s fr ol test #[x,g,.slice A k n,.slice B l m,s] j vF vO LF LO)) (fun i _=>l-(intOf i).toNat);case atStart=>exact⟨0,_,_,fr,[],aY _,rfl,by have:=HLF.out;have:=HK.out;omega,aS _,KH⟩
  case round =>
   obtain⟨j,vF,vO,LF,LO,hj,rfl,hlF,hlO,H⟩:=hrel;clear aA aU;by_cases hlt:j<l
   ·obtain⟨ad,o,hA,ho,hcell⟩:=cN.at_ rD ah (HRO wr H.ext) (i:=j) (by rw[<-HL.out];exact hlt);have c0:=hcell 0 _ rfl;have c1:=hcell 1 _ rfl;have c2:=hcell 2 _ rfl;simp only[add_zero]at c0;rw[add_lit _ _ ah]at c1 c2;subst hA;have HO:=aa ho;clear ho hcell;have HT:=aa (HF o _ (ak H.ext (.cells #[o.ref.ix,o.ref.tag,o.fD] 203)));rcases YL:test o with _|_
    ·rw[YL]at HT;have IP:=aa YL;clear YL;go_wp2_with fail;refine HT.mono ?_;rintro e w2 ⟨rfl,hb2⟩;have jX:=H.more (ag (ak (aj wr) (.cells #[o.ref.ix,o.ref.tag,o.fD] 203)) hb2);have xU:=(af.new wr 203 #[o.ref.ix,o.ref.tag,o.fD]).ag hb2;obtain⟨AF,cF,hvF⟩:=jX.oF.shape;obtain⟨AO,cO,hvO⟩:=jX.oO.shape;subst hvF;subst hvO;obtain⟨hcb,-,hbl⟩:=af.aK xU;obtain⟨cQ,hfg,Dl⟩:=af.aK jX.blk;have hsz:=jX.ext.size;have H1:=aa jX;have YM:=aa xU;clear jX xU hb2 c0 c1 c2;go_wp2_with(at_builtin;refine cj _ rfl _ _ 37 rfl w.heap.size 203 3 24 (.agg #[oZ,oZ,oZ]) js rD vT underlying37 IM rfl ah _ LO rfl (H1.oO.alloc _) w2.heap.size 1 1 [o] rfl rfl ?c4 ?c5 ?c6 ?c7 ?_)
     case c4=>exact Rd.lit w2 (js o) _
     case c5=>simp;omega
     case c6=>simp;omega
     case c7=>simp;omega
     intro v4 w4 bX bg hzz;obtain⟨A4,c4,hv4⟩:=bX.shape;rw[eN,gC]at hv4;subst hv4;have jY:=aa ((H1.more (ak (aj w2) (.cells #[o.ref.ix,o.ref.tag,o.fD] 203))).left HO IP bX bg);have hk4:=(H1.blk.alloc (.cells #[o.ref.ix,o.ref.tag,o.fD] 203)).grown bg (aV (H1.oO.alloc (.cells #[o.ref.ix,o.ref.tag,o.fD] 203)) (H1.blk.alloc (.cells #[o.ref.ix,o.ref.tag,o.fD] 203)) ah);obtain⟨BM,BN,-⟩:=af.aK hk4;clear bX bg hzz cQ hfg hcb;go_wp2_with fail;go_roundw;case rel=>exact⟨j+1,_,_,_,_,ae,by go_num,ae,by simp;omega,jY⟩
     case measure=>simp[intOf];omega
    ·rw[YL]at HT;have IP:=aa YL;clear YL;go_wp2_with fail;refine HT.mono ?_;rintro e w2 ⟨rfl,hb2⟩;have jX:=H.more (ag (ak (aj wr) (.cells #[o.ref.ix,o.ref.tag,o.fD] 203)) hb2);have xU:=(af.new wr 203 #[o.ref.ix,o.ref.tag,o.fD]).ag hb2;obtain⟨AF,cF,hvF⟩:=jX.oF.shape;obtain⟨AO,cO,hvO⟩:=jX.oO.shape;subst hvF;subst hvO;obtain⟨hcb,-,hbl⟩:=af.aK xU;obtain⟨cQ,hfg,Dl⟩:=af.aK jX.blk;have hsz:=jX.ext.size;have H1:=aa jX;have YM:=aa xU;clear jX xU hb2 c0 c1 c2;go_wp2_with fail;go_region_law(first
      |(go_simp;go_at_call 240;(with_reducible refine(Ia _ o.ref.ix o.ref.tag).mono ?_);rintro e w3 ⟨rfl,hb3⟩;have vW:=H1.more (ag (bO (n:=1) (aj w2)) hb3);have adR:=fun i=>af.cell vW.blk i;have adS:=fun i=>af.free vW.blk i;have adT:=vW.blk.lt;have Lr:=vW.ext.size;have H3:=aa vW;clear vW hb3;go_wp2_with fail)
      |(refine kP rfl _ _ 36 rfl w.heap.size 200 2 16 (.agg #[oZ,oZ]) eL mZ sV underlying36 qz rfl ah _ LF rfl ?_ w3.heap.size 1 1 [o.ref] rfl rfl ?_ ?_ ?_ ?_ ?_;(exact H3.oF.alloc _);(exact Rd.lit w3 (eL o.ref) _);(simp;omega);(simp;omega);(simp;omega);intro v4 w4 bX bg hzz;clear hzz;obtain⟨A4,c4,hv4⟩:=bX.shape;rw[eN,gC]at hv4;subst hv4;have hk4:=(H3.blk.alloc (.cells #[o.ref.ix,o.ref.tag] 200)).grown bg (aV (H3.oF.alloc (.cells #[o.ref.ix,o.ref.tag] 200)) (H3.blk.alloc (.cells #[o.ref.ix,o.ref.tag] 200)) ah);have BM:=fun i=>af.cell hk4 i;have BN:=fun i=>af.free hk4 i;go_wp2_with fail))
     all_goals
      have jY:=aa ((H3.more (ak (aj w3) (.cells #[o.ref.ix,o.ref.tag] 200))).aal HO IP bX bg);clear bX bg hk4;go_wp2_with fail;go_roundw;case rel=>exact⟨j+1,_,_,_,_,ae,by go_num,by simp;omega,ae,jY⟩
      case measure=>simp[intOf];omega
   ·have vX:l=j:=ae;subst vX;obtain⟨AF,cF,hvF⟩:=H.oF.shape;obtain⟨AO,cO,hvO⟩:=H.oO.shape;subst hvF;subst hvO;obtain⟨cQ,-,Dl⟩:=af.aK H.blk;obtain⟨aA,-,aU⟩:=af.aK H.par;obtain⟨dh,cW,cY⟩:=af.aK H.res;have Mg:=H.far;go_wp2_with fail;go_region;all_goals
     go_wp2_with fail;have hX:=(gN H.res x g (.slice AF LF.length cF) (.slice AO LO.length cO) s).drewN 1;have e1:aI (World.drewN (gv wr (w.heap.size+1) x g (.slice AF LF.length cF) (.slice AO LO.length cO) s) 1) w.heap.size 200 2 eL (.slice AF LF.length cF) LF:=aI.drewN (dw H.oF H.res ah _ _ _ _ _) 1;have e2:aI (World.drewN (gv wr (w.heap.size+1) x g (.slice AF LF.length cF) (.slice AO LO.length cO) s) 1) w.heap.size 203 3 js (.slice AO LO.length cO) LO:=aI.drewN (dw H.oO H.res ah _ _ _ _ _) 1;have e3:Below w w (World.drewN (gv wr (w.heap.size+1) x g (.slice AF LF.length cF) (.slice AO LO.length cO) s) 1):=bO (eQ H.ext (bU _) _ _ _ _ _) 1;have hB:Mo.j7 ⟨⟨x,g⟩,fr,ol,s⟩ test=⟨⟨x,g⟩,LF,LO,s⟩:=by have q1:=H.lf;have q2:=H.lo;rw[List.take_of_length_le (by have:=HL.out;omega)]at q1 q2;rw[q1,q2];rfl
     change bodyPost _ _ _ _ _ (World.drewN (gv wr (w.heap.size+1) x g (.slice AF LF.length cF) (.slice AO LO.length cO) s) 1);generalize World.drewN (gv wr (w.heap.size+1) x g (.slice AF LF.length cF) (.slice AO LO.length cO) s) 1=wz at *;have l7:=fun i=>af.cell hX i;clear cQ Dl aA aU dh cW cY;rw[hB];refine bodyPost_ret (v:=.tuple #[.agg #[x,g,.slice AF LF.length cF,.slice AO LO.length cO,s],((l:Int)-(LO.length:Int))]) ?_ rfl ?_
     ·simp[results,results214,go_sem,l7]
     ·exact⟨_,_,rfl,AF,cF,AO,cO,rfl,e1,e2,e3⟩
end
section
variable(w:World)
theorem IQ(A:Option Addr)(m:Nat)(xs:List Int)(n:Nat)(hn:n=xs.length)(hr:bC w .u64 A xs)(hl:n<=100000)(v:Int) :
 Calls prog 241 #[.slice A n m,.int .u64 v] w fun e w'=>e=.returned (iL (fun x=>v==x) xs)/\w=w':=by
 have HN:=aa hn;have HR:=aa hr
 clear hn hr
 go_enter func241,ntmps241
 go_wp2_with fail
 go_loop[5,8] (fun _ i=>∃k:Nat,k<=n/\i=k/\Hid (∀(j:Nat) (y),j<k->xs[j]?=some y->(fun x=>v==x) y=false)) (fun _ i=>n-(intOf i).toNat)
 case atStart=>exact⟨0,aY _,rfl,fun j _ h=>absurd h (Nat.not_lt_zero _)⟩
 case round=>exact aam
theorem zX(v:Int)(xs:List Int):xs.any (fun x=>v==x)=xs.contains v:=by
 induction xs with
 |nil=>rfl
 |cons a l ih=>rw[List.any_cons,ih,Bool.eq_iff_iff];simp
theorem zY(A:Option Addr)(m:Nat)(xs:List Int)(n:Nat)(hn:n=xs.length)(hr:bC w .u64 A xs)(hl:n<=100000)(v:Int) :
 Calls prog 219 #[.slice A n m,.int .u64 v] w fun e w'=>e=.returned (xs.contains v)/\w=w':=by
 have HI:=aa (IQ w A m xs n hn hr hl v)
 have HA:=aa (kH (fun x=>v==x) xs)
 obtain⟨r,hr'⟩:=aD (iL (fun x=>v==x) xs)
 rw[<-hr']at HI HA
 clear hn hr hr'
 go_enter func219,ntmps219
 exact TQ
theorem Mi(s g:Int)(hg:-4611686018427387904<=g/\g<=4611686018427387904):Calls prog 216 #[s,g] w fun e w'=>e=.returned (Mo.past s g)/\w=w':=by
 have HP:Hid (Mo.past s g=decide (0<=s/\2<=g/\s<=g-2)):=rfl;obtain⟨b,hb⟩:=aD (Mo.past s g);rw[<-hb]at HP ⊢;clear hb;by_cases h1:0<=s
 ·by_cases h2:2<=g
  ·by_cases h3:s<=g-2
   ·have hb:b=true:=by rw[HP.out];exact dg ⟨h1,h2,h3⟩
    exact TR
   ·have hb:b=false:=by rw[HP.out];exact bJ (fun h=>h3 h.2.2)
    exact TR
  ·have hb:b=false:=by rw[HP.out];exact bJ (fun h=>h2 h.2.1)
   subst hb;have d2:decide (2<=g)=false:=bJ h2;exact TS
 ·have hb:b=false:=by rw[HP.out];exact bJ (fun h=>h1 h.1)
  subst hb;have d1:decide (0<=s)=false:=bJ h1;exact TS
theorem VZ(b:Nat)(g:Int)(hg:-4611686018427387904<=g/\g<=4611686018427387904)(hc:w.cell? ⟨b,0,none⟩=some g)(hb:b<w.heap.size)(o:Mo.Od) :
 Calls prog 215 #[.agg #[o.ref.ix,o.ref.tag,o.fD],.pointer b] w (tX (Mo.past o.fD g) w):=by
 have HP:=aa (Mi (w.alloc (.cells #[o.ref.ix,o.ref.tag,o.fD] 203)) o.fD g hg)
 clear hg
 obtain⟨r,hr⟩:=aD (Mo.past o.fD g)
 rw[<-hr]at HP ⊢
 clear hr
 go_enter func215,ntmps215
 go_wp2_with fail
 refine HP.mono ?_
 rintro e w1 ⟨rfl,rfl⟩
 go_wp2_with fail
 go_ret
 exact⟨rfl,ak (aj w) _⟩
theorem V0(b:Nat)(A:Option Addr)(n m:Nat)(xs:List Int)(hn:n=xs.length)(hl:n<=100000)(hr:bC w .u64 A xs)(hc:w.cell? ⟨b,0,none⟩=some (.slice A n m))(hb:b<w.heap.size)(o:Mo.Od) :
 Calls prog 218 #[.agg #[o.ref.ix,o.ref.tag,o.fD],.pointer b] w (tX (!xs.contains (Mo.bL o.ref)) w):=by
 have Px:=aa (fun w' (hb:Below w w w')=>zY w' A m xs n hn (hr.below hb) hl (Mo.bL o.ref))
 have YC:=aa (fun w'=>fE w' o.ref.ix o.ref.tag)
 clear hn hl hr
 obtain⟨r,hr⟩:∃r,r=xs.contains (Mo.bL o.ref):=⟨_,rfl⟩
 obtain⟨v,hv⟩:∃v,v=Mo.bL o.ref:=⟨_,rfl⟩
 have e1:Mo.bL ⟨o.ref.ix,o.ref.tag⟩=v:=hv.symm
 rw[<-hr]at Px ⊢
 rw[<-hv]at Px
 rw[e1]at YC
 clear hr hv e1
 go_enter func218,ntmps218
 go_wp2_with fail
 have fI:Below w w (w.alloc (.cells #[o.ref.ix,o.ref.tag,o.fD] 203)).drew:=(ak (aj w) _).drew
 go_region_law(first
  |(go_simp;go_at_call 103;(with_reducible refine(YC.out _).mono ?_);rintro e w1 ⟨rfl,hb1⟩;have ma:=ag fI hb1;have hc1:=(ma.cell (p:=⟨b,0,none⟩) hb).trans hc;have hz1:=YB ma hb;go_wp2_with fail)
  |(go_simp;go_at_call 219;(with_reducible refine(Px.out _ ma).mono ?_);rintro e w2 ⟨rfl,rfl⟩;go_wp2_with fail))
 all_goals
  go_wp2_with fail;go_ret;exact⟨rfl,ma⟩
theorem tY(p:Mo.Pl)(A:Option Addr)(n:Nat)(B:Option Addr)(m:Nat)(g:Int)(hg:-4611686018427387904<=g/\g<=4611686018427387904)(h:L8 w p A n B m) :
 Calls prog 177 #[kJ p A n B m,g] w (PlN (Mo.fA p g) w):=by
 have HB:=aa (fun wx (hb:Below w w wx) HC=>BL wx 215 (.inl rfl) (w.heap.size+1) (fun o=>Mo.past o.fD g) p A n B m (h.below hb) HC)
 have HE:=aa (fun wx hc hb o=>VZ wx (w.heap.size+1) g hg hc hb o)
 clear h hg
 unfold Mo.fA
 generalize Mo.j7 p (fun o=>Mo.past o.fD g)=p' at *
 unfold kJ at *
 obtain⟨⟨x,t⟩,fr,ol,s⟩:=p
 dsimp only at *
 obtain⟨k,hk⟩:=aD fr.length
 obtain⟨l,hl⟩:=aD ol.length
 rw[<-hk, <-hl]at HB ⊢
 clear hk hl
 have fI:Below w w (((w.alloc (pT x t A k n B l m s)).alloc (.cells #[g] 3)).alloc tO):=ak (ak (ak (aj w) _) _) _
 have V1:af (((w.alloc (pT x t A k n B l m s)).alloc (.cells #[g] 3)).alloc tO) (w.heap.size+1) 3 _:=(af.newAt _ _ _ aF).alloc _
 have rE:af (((w.alloc (pT x t A k n B l m s)).alloc (.cells #[g] 3)).alloc tO) (w.heap.size+1+1) 39 _:=af.newAt _ _ _ aF
 go_enter func177,ntmps177
 go_wp2_with fail
 refine(HB _ fI ?hc).mono ?_
 case hc=>exact fun o wx hb=>HE wx (by rw[hb.cell (p:=⟨w.heap.size+1,0,none⟩) aF,V1.cell];rfl) (bF V1.lt hb.size) o
 rintro e w1 ⟨v,z,rfl,A1,n1,B1,m1,hv,eo,fN,hb⟩
 subst hv
 obtain⟨⟨x2,t2⟩,GF,ol2,s2⟩:=p'
 unfold kJ
 dsimp only at *
 obtain⟨k2,hk2⟩:=aD GF.length
 obtain⟨l2,hl2⟩:=aD ol2.length
 rw[<-hk2]at eo
 rw[<-hl2]at fN
 rw[<-hk2, <-hl2]
 have HK:=aa hk2;have HL:=aa hl2
 clear hk2 hl2
 have sW:=rE.ag hb
 obtain⟨dh,cW,cY⟩:=af.aK sW
 have jO:=aa (eo.weak fI.size);have eu:=aa (fN.weak fI.size);have yL:=aa (ag fI hb);have HQ:=aa sW
 clear eo fN hb fI rE V1 sW HB HE
 go_wp2_with fail
 have hX:=gN HQ x2 t2 (.slice A1 k2 n1) (.slice B1 l2 m1) s2
 have l7:=fun i=>af.cell hX i
 have e1:aI _ w.heap.size 200 2 eL (.slice A1 k2 n1) GF:=dw jO HQ ah x2 t2 (.slice A1 k2 n1) (.slice B1 l2 m1) s2
 have e2:aI _ w.heap.size 203 3 js (.slice B1 l2 m1) ol2:=dw eu HQ ah x2 t2 (.slice A1 k2 n1) (.slice B1 l2 m1) s2
 have e3:=eQ yL (b:=w.heap.size+1+1) ae x2 t2 (.slice A1 k2 n1) (.slice B1 l2 m1) s2
 change bodyPost _ _ _ _ _ (gv w1 (w.heap.size+1+1) x2 t2 (.slice A1 k2 n1) (.slice B1 l2 m1) s2)
 generalize gv w1 (w.heap.size+1+1) x2 t2 (.slice A1 k2 n1) (.slice B1 l2 m1) s2=wz at *
 clear dh cW cY
 refine bodyPost_ret (v:=.tuple #[.agg #[x2,t2,.slice A1 k2 n1,.slice B1 l2 m1,s2],z]) ?_ rfl ?_
 ·simp[results,results177,go_sem,l7]
 ·have hk:=HK.out;have hl:=HL.out;subst hk hl;exact⟨_,z,rfl,A1,n1,B1,m1,rfl,e1,e2,e3⟩
theorem BO(p:Mo.Pl)(A:Option Addr)(n:Nat)(B:Option Addr)(m:Nat)(D:Option Addr)(dl dc:Nat)(xs:List Int)(hn:dl=xs.length)(jk:dl<=100000)(hr:bC w .u64 D xs)(h:L8 w p A n B m) :
 Calls prog 181 #[kJ p A n B m,.slice D dl dc] w (PlN (Mo.nH p xs) w):=by
 have HB:=aa (fun wx (hb:Below w w wx) HC=>BL wx 218 (.inr rfl) (w.heap.size+1) (fun o=> !xs.contains (Mo.bL o.ref)) p A n B m (h.below hb) HC)
 have HE:=aa (fun wx (QC:Below w w wx) hc hb o=>V0 wx (w.heap.size+1) D dl dc xs hn jk (hr.below QC) hc hb o)
 clear h hn jk hr
 unfold Mo.nH
 generalize Mo.j7 p (fun o=> !xs.contains (Mo.bL o.ref))=p' at *
 unfold kJ at *
 obtain⟨⟨x,t⟩,fr,ol,s⟩:=p
 dsimp only at *
 obtain⟨k,hk⟩:=aD fr.length
 obtain⟨l,hl⟩:=aD ol.length
 rw[<-hk, <-hl]at HB ⊢
 clear hk hl
 have fI:Below w w (((w.alloc (pT x t A k n B l m s)).alloc (.cells #[.slice D dl dc] 43)).alloc tO):=ak (ak (ak (aj w) _) _) _
 have V1:af (((w.alloc (pT x t A k n B l m s)).alloc (.cells #[.slice D dl dc] 43)).alloc tO) (w.heap.size+1) 43 _:=(af.newAt _ _ _ aF).alloc _
 have rE:af (((w.alloc (pT x t A k n B l m s)).alloc (.cells #[.slice D dl dc] 43)).alloc tO) (w.heap.size+1+1) 39 _:=af.newAt _ _ _ aF
 go_enter func181,ntmps181
 go_wp2_with fail
 refine(HB _ fI ?hc).mono ?_
 case hc=>exact fun o wx hb=>HE wx (ag fI hb) (by rw[hb.cell (p:=⟨w.heap.size+1,0,none⟩) aF,V1.cell];rfl) (bF V1.lt hb.size) o
 rintro e w1 ⟨v,z,rfl,A1,n1,B1,m1,hv,eo,fN,hb⟩
 subst hv
 obtain⟨⟨x2,t2⟩,GF,ol2,s2⟩:=p'
 unfold kJ
 dsimp only at *
 obtain⟨k2,hk2⟩:=aD GF.length
 obtain⟨l2,hl2⟩:=aD ol2.length
 rw[<-hk2]at eo
 rw[<-hl2]at fN
 rw[<-hk2, <-hl2]
 have HK:=aa hk2;have HL:=aa hl2
 clear hk2 hl2
 have sW:=rE.ag hb
 obtain⟨dh,cW,cY⟩:=af.aK sW
 have jO:=aa (eo.weak fI.size);have eu:=aa (fN.weak fI.size);have yL:=aa (ag fI hb);have HQ:=aa sW
 clear eo fN hb fI rE V1 sW HB HE
 go_wp2_with fail
 have hX:=gN HQ x2 t2 (.slice A1 k2 n1) (.slice B1 l2 m1) s2
 have l7:=fun i=>af.cell hX i
 have e1:aI _ w.heap.size 200 2 eL (.slice A1 k2 n1) GF:=dw jO HQ ah x2 t2 (.slice A1 k2 n1) (.slice B1 l2 m1) s2
 have e2:aI _ w.heap.size 203 3 js (.slice B1 l2 m1) ol2:=dw eu HQ ah x2 t2 (.slice A1 k2 n1) (.slice B1 l2 m1) s2
 have e3:=eQ yL (b:=w.heap.size+1+1) ae x2 t2 (.slice A1 k2 n1) (.slice B1 l2 m1) s2
 change bodyPost _ _ _ _ _ (gv w1 (w.heap.size+1+1) x2 t2 (.slice A1 k2 n1) (.slice B1 l2 m1) s2)
 generalize gv w1 (w.heap.size+1+1) x2 t2 (.slice A1 k2 n1) (.slice B1 l2 m1) s2=wz at *
 clear dh cW cY
 refine bodyPost_ret (v:=.tuple #[.agg #[x2,t2,.slice A1 k2 n1,.slice B1 l2 m1,s2],z]) ?_ rfl ?_
 ·simp[results,results181,go_sem,l7]
 ·have hk:=HK.out;have hl:=HL.out;subst hk hl;exact⟨_,z,rfl,A1,n1,B1,m1,rfl,e1,e2,e3⟩
theorem GG(p:Mo.Pl)(A:Option Addr)(n:Nat)(B:Option Addr)(m:Nat) :
 Calls prog 217 #[kJ p A n B m] w fun e w'=>e=.returned (Mo.xL p)/\Below w w w':=by
 have HP:Hid (Mo.xL p=if p.own.tag≠0\/0<p.free.length then 0 else if 0<p.old.length then 6 else 7):=rfl
 generalize Mo.xL p=r at *
 unfold kJ
 obtain⟨⟨x,t⟩,fr,ol,s⟩:=p
 dsimp only at *
 generalize fr.length=k at *
 generalize ol.length=l at *
 by_cases h1:t=0
 ·have d1:(t !=0)=false:=by rw[h1];rfl
  by_cases h2:0<k
  ·have d2:decide ((0:Int)<k)=true:=dg ae;have hr:r=0:=by rw[HP.out,au (.inr h2)]
   exact V4
  ·have hk:k=0:=ae;subst hk;by_cases h3:0<l
   ·have d3:decide ((0:Int)<l)=true:=dg ae;have hr:r=6:=by rw[HP.out,ai ae,au h3]
    exact V4
   ·have hl:l=0:=ae;have hr:r=7:=by rw[HP.out,ai ae,ai h3]
    clear h1;subst hr hl;go_enter func217,ntmps217;exact Q9
 ·have d1:(t !=0)=true:=by simpa using h1
  have hr:r=0:=by rw[HP.out,au (.inl h1)]
  exact V4
theorem pI(p:Mo.Pl)(A:Option Addr)(n:Nat)(B:Option Addr)(m:Nat)(lim:Int) :
 Calls prog 178 #[kJ p A n B m,lim] w fun e w'=>e=.returned (Mo.needs p lim)/\Below w w w':=by
 have HP:Hid (Mo.needs p lim=(decide (0<p.old.length) && (decide (lim<=p.old.length) || Mo.xL p !=0))):=rfl
 have HW:=aa (fun wx=>GG wx p A n B m)
 generalize Mo.needs p lim=r at *
 generalize Mo.xL p=y at *
 unfold kJ at *
 obtain⟨⟨x,t⟩,fr,ol,s⟩:=p
 dsimp only at *
 generalize fr.length=k at *
 generalize ol.length=l at *
 by_cases h2:0<l
 ·have d2:decide ((0:Int)<l)=true:=dg ae;by_cases h3:lim<=(l:Int)
  ·have d3:decide (lim<=(l:Int))=true:=dg h3;have hr:r=true:=by rw[HP.out];simp[h2,h3]
   subst hr;exact TT
  ·have d3:decide (lim<=(l:Int))=false:=bJ h3;have hr:r=(y !=0):=by rw[HP.out];simp[h2,h3]
   subst hr;go_enter func178,ntmps178;go_wp2_with fail;refine(HW _).mono ?_;rintro e w1 ⟨rfl,hb1⟩;go_wp2_with fail;go_ret;exact⟨rfl,ag (ak (aj w) _) hb1⟩
 ·have hl:l=0:=ae;have hr:r=false:=by rw[HP.out];simp[h2]
  subst hr hl;exact TT
end
theorem BP(h:Mo.aN c=true):(1<=c.kind/\c.kind<=3)/\(0<=c.cap/\c.cap<=16)/\(0<=c.chans/\c.chans<=8):=by
 obtain⟨_,_,_,_,_,_,ho⟩:=aG h;rcases Bp ho with hk|hk|hk
 ·obtain⟨h1,h2,_⟩:=pE ho (.inl hk);omega
 ·obtain⟨h1,h2,_⟩:=pE ho (.inr hk);omega
 ·obtain⟨h1,h2,_⟩:=oL ho hk;omega
section
variable(w:World)
theorem yM(hc:Mo.aN c=true)(hn:n=c.start.length)(hr:bC w .i64 A c.start) :
 Calls prog 194 #[.agg #[c.kind,c.threads,c.chans,c.cap,c.nodes,c.aJ,c.aB,c.tags,c.bn,c.ba,.slice A n k]] w fun e w'=>e=.returned (Mo.dm c)/\Below w w w':=by
 have HC:=aa (fG (w.alloc (cr c A n k)) hc hn (hr.alloc _) (k:=k))
 have hb:=BP hc
 obtain⟨ht,_⟩:=aG hc
 have PF:c.chans*(1+c.cap)<=8*17:=Int.le_trans (Int.mul_le_mul_of_nonneg_right hb.2.2.2 ae) (Int.mul_le_mul_of_nonneg_left ae ah)
 have GH:0<=c.chans*(1+c.cap):=gO hb.2.2.1 ae
 obtain⟨mm,V5⟩:=aD (c.chans*(1+c.cap))
 have e1:IntKind.i64.wrap (1+c.cap)=1+c.cap:=bK _ ae
 have e2:IntKind.i64.wrap (c.chans*(1+c.cap))=c.chans*(1+c.cap):=bK _ ae
 have e3:IntKind.i64.wrap (1+c.chans*(1+c.cap))=1+c.chans*(1+c.cap):=bK _ ae
 have e4:IntKind.i64.wrap (c.threads*4)=c.threads*4:=bK _ ae
 have e5:IntKind.i64.wrap (1+c.chans*(1+c.cap)+c.threads*4)=1+c.chans*(1+c.cap)+c.threads*4:=bK _ ae
 have HS:Hid (Mo.dm c=if c.kind=3 then 1+c.chans*(1+c.cap)+c.threads*4 else 1+c.cap):=by unfold Hid Mo.dm;rw[hc];rfl
 clear hb ht PF GH V5 hn hr hc
 by_cases hk:c.kind=3
 ·have d1:(c.kind==3)=true:=by simpa using hk
  rw[au hk]at HS;exact aan
 ·have d1:(c.kind==3)=false:=by simpa using hk
  rw[ai hk]at HS;exact aan
theorem rH(hc:Mo.aN c=true):0<=Mo.dm c/\Mo.dm c<=1000:=by have hb:=BP hc;obtain⟨ht,_⟩:=aG hc;have PF:c.chans*(1+c.cap)<=8*17:=Int.le_trans (Int.mul_le_mul_of_nonneg_right hb.2.2.2 ae) (Int.mul_le_mul_of_nonneg_left ae ah);have GH:0<=c.chans*(1+c.cap):=gO hb.2.2.1 ae;unfold Mo.dm;rw[hc];simp only[Bool.true_eq_false,if_false];split<;>omega
theorem vY(hc:Mo.aN c=true)(hn:n=c.start.length)(hr:bC w .i64 A c.start) :
 Calls prog 143 #[.agg #[c.kind,c.threads,c.chans,c.cap,c.nodes,c.aJ,c.aB,c.tags,c.bn,c.ba,.slice A n k]] w fun e w'=>e=.returned (Mo.aZ c)/\Below w w w':=by
 have HC:=aa (fG (w.alloc (cr c A n k)) hc hn (hr.alloc _) (k:=k))
 have HS:Hid (Mo.aZ c=Mo.dm c+c.threads):=by unfold Hid Mo.aZ;rw[hc];rfl
 have hle:=rH hc
 obtain⟨ht,_⟩:=aG hc
 have HST:=aa (fun w' (hb:Below w w w')=>yM w' hc hn (hr.below hb) (k:=k))
 obtain⟨s,hs⟩:=aD (Mo.dm c)
 rw[<-hs]at HS hle HST
 have e1:IntKind.i64.wrap (s+c.threads)=s+c.threads:=bK _ ae
 clear hn hr hc hs hle ht
 go_enter func143,ntmps143
 go_wp2_with fail
 refine HC.mono ?_
 rintro e w1 ⟨rfl,hb⟩
 have hc:∀i,w1.cell? ⟨w.heap.size,i,none⟩=_:=fun i=>hb.cell (p:=⟨w.heap.size,i,none⟩) aF
 have hz:w.heap.size<w1.heap.size:=by have:=hb.size;simp at this;omega
 have HB:=aa (Below.trans (ak (aj w) (cr c A n k)) (hb.mono aF))
 clear hb
 go_wp2_with fail
 have fI:Below w1 w1 w1.drew:=bO (n:=1) (aj w1)
 have TU:∀i,w1.drew.cell? ⟨w.heap.size,i,none⟩=_:=fun i=>(fI.cell (p:=⟨w.heap.size,i,none⟩) hz).trans (hc i)
 go_region_law(first
  |(go_simp;go_at_call 194;refine(HST _ (ag HB fI)).mono ?_;rintro e w2 ⟨rfl,hb2⟩;have qO:=ag (ag HB fI) hb2;have hc2:∀i,w2.cell? ⟨w.heap.size,i,none⟩=_:=fun i=>(hb2.cell (p:=⟨w.heap.size,i,none⟩) hz).trans (TU i);go_wp2_with fail))
 all_goals
  go_wp2_with fail;go_ret;rw[HS.out];exact⟨rfl,qO⟩
end
def dA(r:Mo.Rs):List Value:=[r.seq,r.cs,r.code,r.value]
theorem cm(r:Mo.Rs):(dA r).length=4:=rfl
theorem oV(r:Mo.Rs):∀u∈dA r,u.oneCell'=true:=by intro u hu;simp[dA]at hu;rcases hu with rfl|rfl|rfl|rfl<;>rfl
theorem cN.res{xs:List Mo.Rs}(h:cN w dA A xs)(hi:i<xs.length) :
 ∃ad x,A=some ad/\xs[i]?=some x/\w.cell? (ad.add (i*4))=some x.seq/\w.cell? ((ad.add (i*4)).add 1)=some x.cs/\w.cell? ((ad.add (i*4)).add 2)=some x.code/\w.cell? ((ad.add (i*4)).add 3)=some x.value:=by
 obtain⟨ad,x,h1,h2,h3⟩:=cN.at_ cm ah h hi
 exact⟨ad,x,h1,h2,h3 0 _ rfl,h3 1 _ rfl,h3 2 _ rfl,h3 3 _ rfl⟩
def TV:qN Mo.Ch:=fun w S r x=>∃B d,r=[.int .i64 x.gen,.int .i64 x.cap,.bool x.used,.bool x.closed,.slice B x.buf.length d]/\x.buf.length<=d/\cA w S .i64 B x.buf
theorem b9:Good TV:=⟨fun hs ⟨B,d,h1,h2,h3⟩=>⟨B,d,h1,h2,h3.mono hs⟩,fun hs ⟨B,d,h1,h2,h3⟩=>⟨B,d,h1,h2,h3.same hs⟩⟩
def TX:qN Mo.Wt:=fun w S r x=>∃B d,r=[.bool x.on,.int .i64 x.ay,.int .i64 x.seq,.slice B x.cases.length d]/\x.cases.length<=d/\dv w S bk B x.cases
theorem aP:Good TX:=⟨fun hs ⟨B,d,h1,h2,h3⟩=>⟨B,d,h1,h2,h3.mono hs⟩,fun hs ⟨B,d,h1,h2,h3⟩=>⟨B,d,h1,h2,h3.same hs⟩⟩
section
variable(w:World)
theorem uO(p:α->Bool)(xs:List α):(!(xs.any fun x=> !p x))=xs.all p:=by
 induction xs with
 |nil=>rfl
 |cons x l ih=>simp only[List.any_cons,List.all_cons,Bool.not_or,Bool.not_not,ih]
theorem vZ(A:Option Addr)(m:Nat)(xs:List Int)(most:Int)(n:Nat)(hn:n=xs.length)(hr:bC w .i64 A xs)(hl:n<=100000) :
 Calls prog 230 #[.slice A n m,most] w fun e w'=>e=.returned (Mo.gz xs most)/\Below w w w':=by
 have HV:Hid (Mo.gz xs most=(decide ((n:Int)<=most) && !xs.any xN)):=by unfold Hid Mo.gz;rw[<-hn];congr 1;exact(uO (fun x=>Mo.iy x 0 4294967295) xs).symm
 have HH:=aa (Lm w A m xs n hn hr hl)
 rw[HV.out]
 obtain⟨b,hb⟩:=aD (xs.any xN)
 rw[<-hb]at HH ⊢
 clear hn hr hb HV
 by_cases h1:(n:Int)<=most
 ·have d1:decide ((n:Int)<=most)=true:=dg h1;rw[d1];clear h1;go_enter func230,ntmps230;exact TY
 ·have d1:decide ((n:Int)<=most)=false:=bJ h1;rw[d1];clear h1;go_enter func230,ntmps230;go_wp2_with fail;go_ret;exact⟨aF,aj w⟩
end
def p4(r:Mo.Rs):Bool:= !Mo.eJ r
section
variable(w:World)
theorem Mj(z:Mo.Rs) :
 Calls prog 244 #[.agg #[z.seq,z.cs,z.code,z.value]] w fun e w'=>e=.returned (p4 z)/\Below w w w':=by
 have HG:=aa (vr (w.alloc (pD z.seq z.cs z.code z.value)) z.seq z.cs z.code z.value)
 go_enter func244,ntmps244
 go_wp2_with fail
 refine HG.mono ?_
 rintro e w1 ⟨rfl,hb⟩
 have HB:=aa (ag (ak (aj w) _) hb)
 clear hb
 go_wp2_with fail
 go_ret
 exact⟨rfl,HB⟩
theorem IU(z:Mo.Rs)(w':World)(_:Below w w w') :
 Calls prog 244 #[.agg #[z.seq,z.cs,z.code,z.value]] w' fun e w2=>e=.returned (p4 z)/\Below w' w' w2:=Mj w' z
theorem Mk(A:Option Addr)(m:Nat)(xs:List Mo.Rs)(n:Nat)(hn:n=xs.length)(hr:cN w dA A xs)(hl:n<=100000) :
 Calls prog 252 #[.slice A n m,.func (.func 244) #[] #[]] w fun e w'=>e=.returned (iL p4 xs)/\Below w w w':=by
 have HN:=aa hn;have HR:=aa hr
 have gu:=aa (fun z w' (hb:Below w w w')=>IU w z w' hb)
 clear hn hr
 go_enter func252,ntmps252
 go_wp2_with fail
 go_loopw[5,8] (fun _ i wr=>∃k:Nat,k<=n/\i=k/\Hid (Below w w wr)/\Hid (∀(j:Nat) (y),j<k->xs[j]?=some y->p4 y=false)) (fun _ i _=>n-(intOf i).toNat)
 case atStart=>exact⟨0,aY _,rfl,aj w,fun j _ h=>absurd h (Nat.not_lt_zero _)⟩
 case round =>
  obtain⟨k,hk,rfl,HB,HX⟩:=hrel;by_cases hlt:k<n
  ·obtain⟨ad,z,hA,hz,c0,c1,c2,c3⟩:=cN.res (HR.below HB) (i:=k) (by rw[<-HN.out];exact hlt);subst hA;rw[add_lit _ _ ah]at c1 c2 c3;have HZ:=aa hz;clear hz;have HC:=aa (gu z wr HB);skip;rcases hp:p4 z with _|_
   ·exact ZX
   ·exact ZY
  ·exact YD
theorem Ml(A:Option Addr)(m:Nat)(xs:List Mo.Rs)(n:Nat)(hn:n=xs.length)(hr:cN w dA A xs)(hl:n<=100000) :
 Calls prog 243 #[.slice A n m,.func (.func 244) #[] #[]] w fun e w'=>e=.returned (xs.any p4)/\Below w w w':=by
 have HI:=aa (Mk w A m xs n hn hr hl)
 have HA:=aa (kH p4 xs)
 obtain⟨r,hr'⟩:=aD (iL p4 xs)
 rw[<-hr']at HI HA
 clear hn hr hr'
 go_enter func243,ntmps243
 exact V6
end
section
variable(w:World)
theorem BQ(A:Option Addr)(m:Nat)(xs:List Mo.Rs)(most:Int)(n:Nat)(hn:n=xs.length)(hr:cN w dA A xs)(hl:n<=100000) :
 Calls prog 223 #[.slice A n m,most] w fun e w'=>e=.returned (Mo.lV xs most)/\Below w w w':=by
 have HV:Hid (Mo.lV xs most=(decide ((n:Int)=most) && !xs.any p4)):=by unfold Hid Mo.lV;rw[<-hn];congr 1;exact(uO Mo.eJ xs).symm
 have HH:=aa (Ml w A m xs n hn hr hl)
 rw[HV.out]
 obtain⟨b,hb⟩:=aD (xs.any p4)
 rw[<-hb]at HH ⊢
 clear hn hr hb HV
 by_cases h1:(n:Int)=most
 ·have d0:((n:Int)==most)=true:=by simpa using h1
  have d1:decide ((n:Int)=most)=true:=dg h1;rw[d1];clear h1;go_enter func223,ntmps223;exact TY
 ·have d0:((n:Int)==most)=false:=by simpa using h1
  have d1:decide ((n:Int)=most)=false:=bJ h1;rw[d1];clear h1;go_enter func223,ntmps223;go_wp2_with fail;go_ret;exact⟨aF,aj w⟩
end
section
variable(w:World)
theorem BR(c:Mo.bH)(A:Option Addr)(k n:Nat)(x:Mo.Ch)(B:Option Addr)(bl d:Nat)(hbl:bl=x.buf.length)(hl:bl<=100000)(hr:bC w .i64 B x.buf) :
 Calls prog 226 #[.agg #[c.kind,c.threads,c.chans,c.cap,c.nodes,c.aJ,c.aB,c.tags,c.bn,c.ba,.slice A n k],.agg #[x.gen,x.cap,x.used,x.closed,.slice B bl d]] w fun e w'=>e=.returned (Mo.kZ c x)/\Below w w w':=by
 have tP:=aa (nJ ((w.alloc (cr c A n k)).alloc (qZ x B bl d)) x.gen 0 4095)
 have xw:=aa (nJ ((w.alloc (cr c A n k)).alloc (qZ x B bl d)) x.cap 0 c.cap)
 have HV:=aa (vZ ((w.alloc (cr c A n k)).alloc (qZ x B bl d)) B d x.buf x.cap bl hbl ((hr.alloc _).alloc _) hl)
 have HC:Hid (Mo.kZ c x=(Mo.iy x.gen 0 4095 && Mo.iy x.cap 0 c.cap && Mo.gz x.buf x.cap && (x.used || (!x.closed && x.cap==0)))):=rfl
 rw[HC.out]
 obtain⟨b1,e1⟩:∃b,b=Mo.iy x.gen 0 4095:=⟨_,rfl⟩
 obtain⟨b2,e2⟩:∃b,b=Mo.iy x.cap 0 c.cap:=⟨_,rfl⟩
 obtain⟨b3,e3⟩:∃b,b=Mo.gz x.buf x.cap:=⟨_,rfl⟩
 rw[<-e1]at tP ⊢
 rw[<-e2]at xw ⊢
 rw[<-e3]at HV ⊢
 have lJ:Hid (Below w w ((w.alloc (cr c A n k)).alloc (qZ x B bl d))):=ak (ak (aj w) _) _
 have HK:Hid (af ((w.alloc (cr c A n k)).alloc (qZ x B bl d)) (w.heap.size+1) 83 #[x.gen,x.cap,x.used,x.closed,.slice B bl d]):=af.newAt (w.alloc (cr c A n k)) _ _ aF
 obtain⟨gen,cap,used,closed,buf⟩:=x
 dsimp only at tP xw HV HK lJ ⊢
 clear e1 e2 e3 HC hbl hr hl
 rcases b1 with _|_
 ·go_enter func226,ntmps226;exact TZ
 rcases b2 with _|_
 ·go_enter func226,ntmps226;exact T2
 rcases b3 with _|_
 ·go_enter func226,ntmps226;go_wp2_with fail;refine tP.mono ?_;rintro e w1 ⟨rfl,rfl⟩;go_wp2_with fail;refine xw.mono ?_;rintro e w1 ⟨rfl,rfl⟩;go_wp2_with fail;refine HV.mono ?_;rintro e w1 ⟨rfl,hb⟩;have HB:=aa (lJ.trans (hb.mono (by simp;omega)));clear hb;go_wp2_with fail;go_ret;exact⟨rfl,HB⟩
 rcases used with _|_
 ·rcases closed with _|_
  ·rcases hz:(cap==0)with _|_
   all_goals
    exact V7
  ·exact V7
 ·exact V7
end
def PG(c:Mo.bH)(x:Mo.Ch):Bool:= !Mo.kZ c x
def PH(x:Mo.Wt):Bool:= !Mo.gi x
theorem Mn(ki ar va:Int)(df:Bool)(cs:List (Int×Int×Int)):bt ki ar va cs=Mo.bt ⟨ki,ar,va,df,cs⟩:=rfl
section
variable(w:World)
theorem Mp(x:Mo.Wt)(B:Option Addr)(bl d:Nat)(hbl:bl=x.cases.length)(hl:bl<=100000)(hr:cN w bk B x.cases) :
 Calls prog 229 #[.agg #[x.on,x.ay,x.seq,.slice B bl d]] w fun e w'=>e=.returned (Mo.gi x)/\Below w w w':=by
 have tP:=aa (nJ (w.alloc (.cells #[x.on,x.ay,x.seq,.slice B bl d] 79)) x.ay 0 4294967295)
 have xw:=aa (nJ (w.alloc (.cells #[x.on,x.ay,x.seq,.slice B bl d] 79)) x.seq 0 1048575)
 have Dm:=aa (nJ (w.alloc (.cells #[x.on,x.ay,x.seq,.slice B bl d] 79)) bl 1 3)
 have HF:=aa (lq (w:=(w.alloc (.cells #[x.on,x.ay,x.seq,.slice B bl d] 79))) (ki:=3) (ar:=0) (va:=0) (df:=false) (A:=B) (c:=d) (cs:=x.cases) ae (hr.alloc _))
 rw[Mn 3 0 0 false, <-hbl]at HF
 have HC:Hid (Mo.gi x=if x.on=false then x.ay==0 && x.seq==0 && decide (bl=0)else Mo.iy x.ay 0 4294967295 && Mo.iy x.seq 0 1048575 && Mo.iy bl 1 3 && Mo.bt ⟨3,0,0,false,x.cases⟩):=by unfold Hid;rw[hbl];rfl
 rw[HC.out]
 obtain⟨b1,e1⟩:∃b,b=Mo.iy x.ay 0 4294967295:=⟨_,rfl⟩
 obtain⟨b2,e2⟩:∃b,b=Mo.iy x.seq 0 1048575:=⟨_,rfl⟩
 obtain⟨b3,e3⟩:∃b,b=Mo.iy (bl:Int) 1 3:=⟨_,rfl⟩
 obtain⟨b4,e4⟩:∃b,b=Mo.bt ⟨3,0,0,false,x.cases⟩:=⟨_,rfl⟩
 rw[<-e1]at tP ⊢
 rw[<-e2]at xw ⊢
 rw[<-e3]at Dm ⊢
 rw[<-e4]at HF ⊢
 have lJ:Hid (Below w w (w.alloc (.cells #[x.on,x.ay,x.seq,.slice B bl d] 79))):=ak (aj w) _
 obtain⟨on,ay,seq,cs⟩:=x
 dsimp only at tP xw Dm HF lJ ⊢
 clear e1 e2 e3 e4 HC hbl hr
 rcases on with _|_
 ·rw[au rfl];by_cases h1:ay=0;case neg =>
   have d1:(ay==0)=false:=by simpa using h1
   rw[d1];clear h1;exact Ra
  have d1:(ay==0)=true:=by simpa using h1
  rw[d1];by_cases h2:seq=0;case neg =>
   have d2:(seq==0)=false:=by simpa using h2
   rw[d2];clear h1 h2;exact Ra
  have d2:(seq==0)=true:=by simpa using h2
  rw[d2];clear h1 h2;by_cases h3:bl=0
  ·subst h3;exact Ra
  ·have d3:((bl:Int)==0)=false:=by simp;omega
   have d4:decide (bl=0)=false:=bJ h3;rw[d4];exact Ra
 ·rw[ai ah];rcases b1 with _|_
  ·skip;go_enter func229,ntmps229;exact TZ
  rcases b2 with _|_
  ·skip;go_enter func229,ntmps229;exact T2
  rcases b3 with _|_
  ·skip;go_enter func229,ntmps229;go_wp2_with fail;refine tP.mono ?_;rintro e w1 ⟨rfl,rfl⟩;go_wp2_with fail;refine xw.mono ?_;rintro e w1 ⟨rfl,rfl⟩;go_wp2_with fail;refine Dm.mono ?_;rintro e w1 ⟨rfl,rfl⟩;go_wp2_with fail;go_ret;exact⟨rfl,lJ⟩
  go_enter func229,ntmps229;go_wp2_with fail;refine tP.mono ?_;rintro e w1 ⟨rfl,rfl⟩;go_wp2_with fail;refine xw.mono ?_;rintro e w1 ⟨rfl,rfl⟩;go_wp2_with fail;refine Dm.mono ?_;rintro e w1 ⟨rfl,rfl⟩;go_wp2_with fail;refine HF.mono ?_;rintro e w1 ⟨rfl,hb⟩;have HB:=aa (ag lJ hb);clear hb;go_wp2_with fail;go_ret;exact⟨aF,HB⟩
end
section
variable(w:World)
theorem IV(c:Mo.bH)(g:Nat)(A:Option Addr)(k n:Nat)(hg:af w g 24 #[c.kind,c.threads,c.chans,c.cap,c.nodes,c.aJ,c.aB,c.tags,c.bn,c.ba,.slice A n k])(x:Mo.Ch)(B:Option Addr)(bl d:Nat)(hbl:bl=x.buf.length)(hl:bl<=100000)(hr:bC w .i64 B x.buf) :
 Calls prog 225 #[.agg #[x.gen,x.cap,x.used,x.closed,.slice B bl d],.pointer g] w fun e w'=>e=.returned (PG c x)/\Below w w w':=by
 have HC:=aa (BR (w.alloc (qZ x B bl d)) c A k n x B bl d hbl hl (hr.alloc _))
 obtain⟨hcc,-,TC⟩:=af.aK hg
 have HV:Hid (PG c x= !Mo.kZ c x):=rfl
 rw[HV.out]
 obtain⟨b,hb⟩:=aD (Mo.kZ c x)
 rw[<-hb]at HC ⊢
 clear hg hr hbl hb
 go_enter func225,ntmps225
 exact T3
theorem IW(x:Mo.Wt)(B:Option Addr)(bl d:Nat)(hbl:bl=x.cases.length)(hl:bl<=100000)(hr:cN w bk B x.cases) :
 Calls prog 228 #[.agg #[x.on,x.ay,x.seq,.slice B bl d]] w fun e w'=>e=.returned (PH x)/\Below w w w':=by
 have HC:=aa (Mp (w.alloc (.cells #[x.on,x.ay,x.seq,.slice B bl d] 79)) x B bl d hbl hl (hr.alloc _))
 have HV:Hid (PH x= !Mo.gi x):=rfl
 rw[HV.out]
 obtain⟨b,hb⟩:=aD (Mo.gi x)
 rw[<-hb]at HC ⊢
 clear hr hbl hb
 go_enter func228,ntmps228
 exact T3
end
section
variable(w:World) {c:Mo.bH} {g:Nat} {A0:Option Addr} {k0 n0:Nat} {S:Nat->Prop}
theorem Mq(hk:af w g 24 #[c.kind,c.threads,c.chans,c.cap,c.nodes,c.aJ,c.aB,c.tags,c.bn,c.ba,.slice A0 n0 k0])(tZ:∀b,S b->b<w.heap.size)(A:Option Addr)(m:Nat)(xs:List Mo.Ch)(n:Nat)(hn:n=xs.length)(hr:jF 5 TV w S A xs)(hl:n<=100000)(lu:∀x∈xs,x.buf.length<=100000) :
 Calls prog 245 #[.slice A n m,.func (.func 225) #[] #[.pointer g]] w fun e w'=>e=.returned (iL (PG c) xs)/\Below w w w':=by
 have HN:=aa hn;have HR:=aa hr;have AR:=aa tZ;have Eb:=aa lu
 have gu:=aa (fun(z:Mo.Ch) (B:Option Addr) (bl d:Nat) (hbl:bl=z.buf.length) (hl:bl<=100000) (w':World) (hb:Below w w w') (hr:bC w' .i64 B z.buf)=>IV w' c g A0 k0 n0 (hk.ag hb) z B bl d hbl hl hr)
 clear hn hr hk tZ lu
 go_enter func245,ntmps245
 go_wp2_with fail
 go_loopw[5,8] (fun _ i wr=>∃k:Nat,k<=n/\i=k/\Hid (Below w w wr)/\Hid (∀(j:Nat) (y),j<k->xs[j]?=some y->(PG c) y=false)) (fun _ i _=>n-(intOf i).toNat)
 case atStart=>exact⟨0,aY _,rfl,aj w,fun j _ h=>absurd h (Nat.not_lt_zero _)⟩
 case round =>
  obtain⟨k,hk,rfl,HB,HX⟩:=hrel;by_cases hlt:k<n
  ·obtain⟨ad,z,r,hA,hz,hP,_,hcs⟩:=jF.at_ ah (HR.below b9 AR HB) (i:=k) (by rw[<-HN.out];exact hlt);obtain⟨B,d,rfl,hd,Dp⟩:=hP;have c0:wr.cell? (ad.add (k*5))=_:=hcs 0 _ rfl;have c1:=hcs 1 _ rfl;have c2:=hcs 2 _ rfl;have c3:=hcs 3 _ rfl;have c4:=hcs 4 _ rfl;have lu:=Eb.out z (dO hz);obtain⟨bl,hbl⟩:=aD z.buf.length;rw[<-hbl]at c4 lu;subst hA;rw[add_lit _ _ ah]at c1 c2 c3 c4;clear hcs;have HZ:=aa hz;clear hz;have HC:=aa (gu z B bl d hbl lu wr HB Dp.1);clear hbl Dp hd lu;rcases hp:(PG c) z with _|_
   ·exact ZX
   ·exact ZY
  ·exact YD
theorem Mr(hk:af w g 24 #[c.kind,c.threads,c.chans,c.cap,c.nodes,c.aJ,c.aB,c.tags,c.bn,c.ba,.slice A0 n0 k0])(tZ:∀b,S b->b<w.heap.size)(A:Option Addr)(m:Nat)(xs:List Mo.Ch)(n:Nat)(hn:n=xs.length)(hr:jF 5 TV w S A xs)(hl:n<=100000)(lu:∀x∈xs,x.buf.length<=100000) :
 Calls prog 224 #[.slice A n m,.func (.func 225) #[] #[.pointer g]] w fun e w'=>e=.returned (xs.any (PG c))/\Below w w w':=by
 have HI:=aa (Mq w hk tZ A m xs n hn hr hl lu)
 have HA:=aa (kH (PG c) xs)
 obtain⟨r,hr'⟩:=aD (iL (PG c) xs)
 rw[<-hr']at HI HA
 clear hn hr hr' hk
 go_enter func224,ntmps224
 exact V6
end
section
variable(w:World) {S:Nat->Prop}
theorem Ms(_hk:True)(tZ:∀b,S b->b<w.heap.size)(A:Option Addr)(m:Nat)(xs:List Mo.Wt)(n:Nat)(hn:n=xs.length)(hr:jF 4 TX w S A xs)(hl:n<=100000)(lu:∀x∈xs,x.cases.length<=100000) :
 Calls prog 246 #[.slice A n m,.func (.func 228) #[] #[]] w fun e w'=>e=.returned (iL PH xs)/\Below w w w':=by
 have HN:=aa hn;have HR:=aa hr;have AR:=aa tZ;have Eb:=aa lu
 have gu:=aa (fun(z:Mo.Wt) (B:Option Addr) (bl d:Nat) (hbl:bl=z.cases.length) (hl:bl<=100000) (w':World) (hr:cN w' bk B z.cases)=>IW w' z B bl d hbl hl hr)
 clear hn hr _hk tZ lu
 go_enter func246,ntmps246
 go_wp2_with fail
 go_loopw[5,8] (fun _ i wr=>∃k:Nat,k<=n/\i=k/\Hid (Below w w wr)/\Hid (∀(j:Nat) (y),j<k->xs[j]?=some y->PH y=false)) (fun _ i _=>n-(intOf i).toNat)
 case atStart=>exact⟨0,aY _,rfl,aj w,fun j _ h=>absurd h (Nat.not_lt_zero _)⟩
 case round =>
  obtain⟨k,hk,rfl,HB,HX⟩:=hrel;by_cases hlt:k<n
  ·obtain⟨ad,z,r,hA,hz,hP,_,hcs⟩:=jF.at_ ah (HR.below aP AR HB) (i:=k) (by rw[<-HN.out];exact hlt);obtain⟨B,d,rfl,hd,Dp⟩:=hP;have c0:wr.cell? (ad.add (k*4))=_:=hcs 0 _ rfl;have c1:=hcs 1 _ rfl;have c2:=hcs 2 _ rfl;have c3:=hcs 3 _ rfl;have lu:=Eb.out z (dO hz);obtain⟨bl,hbl⟩:=aD z.cases.length;rw[<-hbl]at c3 lu;subst hA;rw[add_lit _ _ ah]at c1 c2 c3;clear hcs;have HZ:=aa hz;clear hz;have HC:=aa (gu z B bl d hbl lu wr Dp.1);clear hbl Dp hd lu;rcases hp:PH z with _|_
   ·exact ZX
   ·exact ZY
  ·exact YD
theorem Mt(_hk:True)(tZ:∀b,S b->b<w.heap.size)(A:Option Addr)(m:Nat)(xs:List Mo.Wt)(n:Nat)(hn:n=xs.length)(hr:jF 4 TX w S A xs)(hl:n<=100000)(lu:∀x∈xs,x.cases.length<=100000) :
 Calls prog 227 #[.slice A n m,.func (.func 228) #[] #[]] w fun e w'=>e=.returned (xs.any PH)/\Below w w w':=by
 have HI:=aa (Ms w _hk tZ A m xs n hn hr hl lu)
 have HA:=aa (kH PH xs)
 obtain⟨r,hr'⟩:=aD (iL PH xs)
 rw[<-hr']at HI HA
 clear hn hr hr' _hk
 go_enter func227,ntmps227
 exact V6
end
section
variable(w:World)
theorem IX(hc:Mo.aN c=true)(hn:n=c.start.length)(hr:bC w .i64 A c.start)(h:Mo.Hl)(A1 A2 A3:Option Addr)(n1 n2 n3 m1 m2 m3:Nat)(nS:n1=h.chans.length)(sY:n2=h.waits.length)(ua:n3=h.done.length)(tZ:∀b,S b->b<w.heap.size)(h1:jF 5 TV w S A1 h.chans)(h2:jF 4 TX w S A2 h.waits)(h3:cN w dA A3 h.done)(l1:n1<=100000)(l2:n2<=100000)(l3:n3<=100000)(l4:∀x∈h.chans,x.buf.length<=100000)(l5:∀x∈h.waits,x.cases.length<=100000) :
 Calls prog 195 #[.agg #[c.kind,c.threads,c.chans,c.cap,c.nodes,c.aJ,c.aB,c.tags,c.bn,c.ba,.slice A n k],.agg #[h.ay,.slice A1 n1 m1,.slice A2 n2 m2,.slice A3 n3 m3]] w fun e w'=>e=.returned (Mo.jo c h)/\Below w w w':=by
 have Mu:=aa (fG ((w.alloc (cr c A n k)).alloc (sB h.ay A1 n1 m1 A2 n2 m2 A3 n3 m3)) hc hn ((hr.alloc _).alloc _) (k:=k))
 have YN:=aa (fun w'=>nJ w' h.ay 0 4294967295)
 have HD:=aa (fun w' (hb:Below w w w')=>BQ w' A3 m3 h.done c.threads n3 ua (h3.below hb) l3)
 have HFC:=aa (fun w' (hb:Below w w w') (hk:af w' w.heap.size 24 #[c.kind,c.threads,c.chans,c.cap,c.nodes,c.aJ,c.aB,c.tags,c.bn,c.ba,.slice A n k])=>Mr w' hk (fun b hs=>bF (tZ b hs) hb.size) A1 m1 h.chans n1 nS (h1.below b9 tZ hb) l1 l4)
 have HFW:=aa (fun w' (hb:Below w w w')=>Mt w' trivial (fun b hs=>bF (tZ b hs) hb.size) A2 m2 h.waits n2 sY (h2.below aP tZ hb) l2 l5)
 have HV:Hid (Mo.jo c h=(true && (c.kind==3) && Mo.iy h.ay 0 4294967295 && decide ((n1:Int)=c.chans) && decide ((n2:Int)=c.threads) && Mo.lV h.done c.threads && (!h.chans.any (PG c)) && (!h.waits.any PH))):=by
  unfold Hid Mo.jo;rw[hc,nS,sY];congr 1
  ·congr 1;exact(uO (Mo.kZ c) h.chans).symm
  ·exact(uO Mo.gi h.waits).symm
 rw[HV.out]
 obtain⟨b1,e1⟩:∃b,b=Mo.iy h.ay 0 4294967295:=⟨_,rfl⟩
 obtain⟨b2,e2⟩:∃b,b=Mo.lV h.done c.threads:=⟨_,rfl⟩
 obtain⟨b3,e3⟩:∃b,b=h.chans.any (PG c):=⟨_,rfl⟩
 obtain⟨b4,e4⟩:∃b,b=h.waits.any PH:=⟨_,rfl⟩
 rw[<-e1]at YN ⊢
 rw[<-e2]at HD ⊢
 rw[<-e3]at HFC ⊢
 rw[<-e4]at HFW ⊢
 have lJ:Hid (Below w w ((w.alloc (cr c A n k)).alloc (sB h.ay A1 n1 m1 A2 n2 m2 A3 n3 m3))):=ak (ak (aj w) _) _
 have gV:Hid (af ((w.alloc (cr c A n k)).alloc (sB h.ay A1 n1 m1 A2 n2 m2 A3 n3 m3)) w.heap.size 24 #[c.kind,c.threads,c.chans,c.cap,c.nodes,c.aJ,c.aB,c.tags,c.bn,c.ba,.slice A n k]):=(af.new w _ _).alloc _
 have fh:Hid (af ((w.alloc (cr c A n k)).alloc (sB h.ay A1 n1 m1 A2 n2 m2 A3 n3 m3)) (w.heap.size+1) 71 #[h.ay,.slice A1 n1 m1,.slice A2 n2 m2,.slice A3 n3 m3]):=af.newAt (w.alloc (cr c A n k)) _ _ aF
 obtain⟨ay,chans,waits,done⟩:=h
 dsimp only at Mu YN lJ gV fh ⊢
 clear e1 e2 e3 e4 HV nS sY ua h1 h2 h3 l1 l2 l3 l4 l5 hn hr hc tZ
 by_cases q1:c.kind=3
 case neg =>
  have d1:(c.kind==3)=false:=by simpa using q1
  have VJ:(c.kind !=3)=true:=by simpa using q1
  rw[d1];clear q1;go_enter func195,ntmps195;go_wp2_with fail;refine Mu.mono ?_;rintro e w1 ⟨rfl,hb⟩;have kS:=gV.ag hb;have gR:=fh.ag hb;obtain⟨hc0,-,hz0⟩:=af.aK kS;obtain⟨hc1,-,hz1⟩:=af.aK gR;have HK:=aa kS;have bj:=aa (ag lJ hb);clear hb kS gR;go_wp2_with fail;go_ret;exact⟨aF,bj⟩
 have d1:(c.kind==3)=true:=by simpa using q1
 have VJ:(c.kind !=3)=false:=by simpa using q1
 rw[d1]
 clear q1
 rcases b1 with _|_
 ·skip;exact V8
 by_cases q2:(n1:Int)=c.chans
 case neg =>
  have d2:((n1:Int) !=c.chans)=true:=by simpa using q2
  rw[bJ q2];clear q2;exact V8
 have d2:((n1:Int) !=c.chans)=false:=by simpa using q2
 rw[dg q2]
 clear q2
 by_cases q3:(n2:Int)=c.threads
 case neg =>
  have d3:((n2:Int) !=c.threads)=true:=by simpa using q3
  rw[bJ q3];clear q3;exact V8
 have d3:((n2:Int) !=c.threads)=false:=by simpa using q3
 rw[dg q3]
 clear q3
 have YE:∀(fn:Fn) (first cap:Array Value) (w:World),(Instr.makeFunc fn first cap).run prog w=.ok (.func fn first cap) w:=fun _ _ _ _=>rfl
 rcases b2 with _|_
 ·skip;go_enter func195,ntmps195;go_wp2_with fail;refine Mu.mono ?_;rintro e w1 ⟨rfl,hb⟩;have kS:=gV.ag hb;have gR:=fh.ag hb;obtain⟨hc0,-,hz0⟩:=af.aK kS;obtain⟨hc1,-,hz1⟩:=af.aK gR;have HK:=aa kS;have bj:=aa (ag lJ hb);clear hb kS gR;go_wp2_with fail;refine(YN w1).mono ?_;rintro e w9 ⟨rfl,rfl⟩;go_wp2_with fail;refine(HD w1 bj).mono ?_;rintro e w2 ⟨rfl,hb⟩;have uy:∀i,w2.cell? ⟨w.heap.size,i,none⟩=_:=fun i=>(hb.cell (p:=⟨w.heap.size,i,none⟩) hz0).trans (hc0 i);have uz:∀i,w2.cell? ⟨w.heap.size+1,i,none⟩=_:=fun i=>(hb.cell (p:=⟨w.heap.size+1,i,none⟩) hz1).trans (hc1 i);have HK:=aa (HK.ag hb);exact aao
 rcases b3 with _|_
 case true=>skip;go_enter func195,ntmps195;go_wp2_with fail;refine Mu.mono ?_;rintro e w1 ⟨rfl,hb⟩;have kS:=gV.ag hb;have gR:=fh.ag hb;obtain⟨hc0,-,hz0⟩:=af.aK kS;obtain⟨hc1,-,hz1⟩:=af.aK gR;have HK:=aa kS;have bj:=aa (ag lJ hb);clear hb kS gR;go_wp2_with fail;refine(YN w1).mono ?_;rintro e w9 ⟨rfl,rfl⟩;go_wp2_with fail;refine(HD w1 bj).mono ?_;rintro e w2 ⟨rfl,hb⟩;have uy:∀i,w2.cell? ⟨w.heap.size,i,none⟩=_:=fun i=>(hb.cell (p:=⟨w.heap.size,i,none⟩) hz0).trans (hc0 i);have uz:∀i,w2.cell? ⟨w.heap.size+1,i,none⟩=_:=fun i=>(hb.cell (p:=⟨w.heap.size+1,i,none⟩) hz1).trans (hc1 i);have HK:=aa (HK.ag hb);have hz0:=bF hz0 hb.size;have hz1:=bF hz1 hb.size;have bq:=aa (ag bj hb);clear hb hc0 hc1;have hc0:=uy;have hc1:=uz;clear uy uz;go_wp2_with fail;refine(HFC w2 bq HK).mono ?_;rintro e w3 ⟨rfl,hb⟩;have BS:∀i,w3.cell? ⟨w.heap.size,i,none⟩=_:=fun i=>(hb.cell (p:=⟨w.heap.size,i,none⟩) hz0).trans (hc0 i);have BU:∀i,w3.cell? ⟨w.heap.size+1,i,none⟩=_:=fun i=>(hb.cell (p:=⟨w.heap.size+1,i,none⟩) hz1).trans (hc1 i);have HK:=aa (HK.ag hb);have hz0:=bF hz0 hb.size;have hz1:=bF hz1 hb.size;have bZ:=aa (ag bq hb);clear hb hc0 hc1;have hc0:=BS;have hc1:=BU;clear BS BU;go_wp2_with fail;go_ret;exact⟨aF,bZ⟩
 rcases b4 with _|_
 ·exact aap
 ·exact aap
end
section
variable(w:World)
theorem IY(hc:Mo.aN c=true)(hn:n=c.start.length)(hr:bC w .i64 A c.start)(h:Mo.Cl)(A1 A3:Option Addr)(n1 n3 m1 m3:Nat)(nS:n1=h.list.length)(ua:n3=h.done.length)(h1:bC w .i64 A1 h.list)(h3:cN w dA A3 h.done)(l1:n1<=100000)(l3:n3<=100000) :
 Calls prog 200 #[.agg #[c.kind,c.threads,c.chans,c.cap,c.nodes,c.aJ,c.aB,c.tags,c.bn,c.ba,.slice A n k],.agg #[h.cap,.slice A1 n1 m1,.slice A3 n3 m3]] w fun e w'=>e=.returned (Mo.mN c h)/\Below w w w':=by
 have Mu:=aa (fG ((w.alloc (cr c A n k)).alloc (kQ h.cap A1 n1 m1 A3 n3 m3)) hc hn ((hr.alloc _).alloc _) (k:=k))
 have YO:=aa (fun w' (hb:Below w w w')=>vZ w' A1 m1 h.list c.cap n1 nS (h1.below hb) l1)
 have HD:=aa (fun w' (hb:Below w w w')=>BQ w' A3 m3 h.done c.threads n3 ua (h3.below hb) l3)
 have HV:Hid (Mo.mN c h=(true && (c.kind !=3) && (h.cap==c.cap) && Mo.gz h.list c.cap && Mo.lV h.done c.threads)):=by unfold Hid Mo.mN;rw[hc]
 rw[HV.out]
 obtain⟨b1,e1⟩:∃b,b=Mo.gz h.list c.cap:=⟨_,rfl⟩
 obtain⟨b2,e2⟩:∃b,b=Mo.lV h.done c.threads:=⟨_,rfl⟩
 rw[<-e1]at YO ⊢
 rw[<-e2]at HD ⊢
 have lJ:Hid (Below w w ((w.alloc (cr c A n k)).alloc (kQ h.cap A1 n1 m1 A3 n3 m3))):=ak (ak (aj w) _) _
 have gV:Hid (af ((w.alloc (cr c A n k)).alloc (kQ h.cap A1 n1 m1 A3 n3 m3)) w.heap.size 24 #[c.kind,c.threads,c.chans,c.cap,c.nodes,c.aJ,c.aB,c.tags,c.bn,c.ba,.slice A n k]):=(af.new w _ _).alloc _
 have fh:Hid (af ((w.alloc (cr c A n k)).alloc (kQ h.cap A1 n1 m1 A3 n3 m3)) (w.heap.size+1) 119 #[h.cap,.slice A1 n1 m1,.slice A3 n3 m3]):=af.newAt (w.alloc (cr c A n k)) _ _ aF
 obtain⟨cap,list,done⟩:=h
 dsimp only at Mu lJ gV fh ⊢
 clear e1 e2 HV nS ua h1 h3 l1 l3 hn hr hc
 by_cases q1:c.kind=3
 ·have VJ:(c.kind !=3)=false:=by simpa using q1
  rw[VJ];clear q1;exact aaq
 have VJ:(c.kind !=3)=true:=by simpa using q1
 rw[VJ]
 clear q1
 by_cases q2:cap=c.cap
 case neg =>
  have d2:(cap==c.cap)=false:=by simpa using q2
  rw[d2];clear q2;exact aaq
 have d2:(cap==c.cap)=true:=by simpa using q2
 rw[d2]
 clear q2
 rcases b1 with _|_
 ·skip;go_enter func200,ntmps200;go_wp2_with fail;refine Mu.mono ?_;rintro e w1 ⟨rfl,hb⟩;have kS:=gV.ag hb;have gR:=fh.ag hb;obtain⟨hc0,-,hz0⟩:=af.aK kS;obtain⟨hc1,-,hz1⟩:=af.aK gR;have bj:=aa (ag lJ hb);clear hb kS gR;go_wp2_with fail;refine(YO w1 bj).mono ?_;rintro e w2 ⟨rfl,hb⟩;have uy:∀i,w2.cell? ⟨w.heap.size,i,none⟩=_:=fun i=>(hb.cell (p:=⟨w.heap.size,i,none⟩) hz0).trans (hc0 i);have uz:∀i,w2.cell? ⟨w.heap.size+1,i,none⟩=_:=fun i=>(hb.cell (p:=⟨w.heap.size+1,i,none⟩) hz1).trans (hc1 i);exact aao
 rcases b2 with _|_
 ·exact aar
 ·exact aar
theorem wj(b:Bool):Calls prog 198 #[b] w fun e w'=>e=.returned (.int .u64 (Mo.flag b))/\w=w':=by
 rcases b with _|_
 all_goals
  go_enter func198,ntmps198;go_wp2_with fail;go_ret;exact⟨rfl,rfl⟩
theorem nN(b:Bool):0<=Mo.flag b/\Mo.flag b<=1:=by cases b<;>decide
theorem Mw(x:Mo.Ch)(B:Option Addr)(bl d:Nat)(hbl:bl=x.buf.length)(h1:0<=x.gen/\x.gen<=4095)(h2:0<=x.cap/\x.cap<=15)(h3:bl<=15) :
 Calls prog 197 #[.agg #[x.gen,x.cap,x.used,x.closed,.slice B bl d]] w fun e w'=>e=.returned (.int .u64 (Mo.yu x))/\Below w w w':=by
 have HV:Hid (Mo.yu x=x.gen+x.cap*4096+Mo.flag x.used*65536+Mo.flag x.closed*131072+(bl:Int)*1048576):=by unfold Hid;rw[hbl];rfl
 rw[HV.out]
 have VU:=nN x.used;have hf2:=nN x.closed
 have sj:=aa (fun w'=>wj w' x.used)
 have p3:=aa (fun w'=>wj w' x.closed)
 obtain⟨f1,e1⟩:∃f,f=Mo.flag x.used:=⟨_,rfl⟩
 obtain⟨f2,e2⟩:∃f,f=Mo.flag x.closed:=⟨_,rfl⟩
 rw[<-e1]at VU sj ⊢
 rw[<-e2]at hf2 p3 ⊢
 obtain⟨gen,cap,used,closed,buf⟩:=x
 dsimp only at h1 h2 sj p3 ⊢
 clear e1 e2 HV hbl
 have a1:IntKind.u64.wrap gen=gen:=by simp only[ig];omega
 have a2:IntKind.u64.wrap cap=cap:=by simp only[ig];omega
 have a3:IntKind.u64.wrap (cap*4096)=cap*4096:=by simp only[ig];omega
 have a4:IntKind.u64.wrap (f1*65536)=f1*65536:=by simp only[ig];omega
 have a5:IntKind.u64.wrap (f2*131072)=f2*131072:=by simp only[ig];omega
 have a6:IntKind.u64.wrap (bl:Int)=bl:=by simp only[ig];omega
 have a7:IntKind.u64.wrap ((bl:Int)*1048576)=(bl:Int)*1048576:=by simp only[ig];omega
 have o1:bits BinOp.or IntKind.u64 gen (cap*4096)=gen+cap*4096:=lj 12 _ _ ae ae ae ae ae ae
 have o2:bits BinOp.or IntKind.u64 (gen+cap*4096) (f1*65536)=gen+cap*4096+f1*65536:=lj 16 _ _ ae ae ae ae ae ae
 have o3:bits BinOp.or IntKind.u64 (gen+cap*4096+f1*65536) (f2*131072)=gen+cap*4096+f1*65536+f2*131072:=lj 17 _ _ ae ae ae ae ae ae
 have o4:bits BinOp.or IntKind.u64 (gen+cap*4096+f1*65536+f2*131072) ((bl:Int)*1048576)=gen+cap*4096+f1*65536+f2*131072+(bl:Int)*1048576:=lj 20 _ _ ae ae ae ae ae ae
 clear h1 h2 h3 VU hf2
 go_enter func197,ntmps197
 go_wp2_with fail
 go_quiet((go_at_call 198;first|exact qc (sj _)|exact qc (p3 _)))
 go_wp2_with fail
 go_ret
 exact⟨rfl,bO (ak (aj w) _) _⟩
theorem IZ(l:List Int)(k:Nat):Mo.lM l (k+1)=Mo.lM l k++[if k<l.length then l.getD k 0 else 0]:=by
 unfold Mo.lM;by_cases h:k<l.length
 ·rw[au h,show k+1-l.length=0 by omega,show k-l.length=0 by omega];simp only[List.replicate_zero,List.append_nil];rw[fz (cD h),eR,cD h];rfl
 ·rw[ai h,List.take_of_length_le ae,List.take_of_length_le ae,show k+1-l.length=(k-l.length)+1 by omega,List.replicate_succ',List.append_assoc]
theorem kj(l:List Int)(k:Nat):(Mo.lM l k).length=k:=by unfold Mo.lM;rw[eN,eW,gf];omega
def p5(w w':World)(v v':Value):Prop:=(∀b,b<w.heap.size->some b≠v.ownBlock->w'.heap[b]?=w.heap[b]?)/\(v'.ownBlock=v.ownBlock\/∃g,v'.ownBlock=some g/\w.heap.size<=g)/\w.heap.size<=w'.heap.size
theorem p5.refl(w:World)(v:Value):p5 w w v v:=⟨fun _ _ _=>rfl,.inl rfl,aS _⟩
theorem p5.step{w wr1:World}{o v':Value}(h:p5 w wr v o)(hb:Below wr wr wr1)(hg:wr1.grownBy w2 o.ownBlock)(hat:v'.ownBlock=o.ownBlock\/v'.ownBlock=some wr1.heap.size):p5 w w2 v v':=by
 obtain⟨h1,h2,h3⟩:=h;refine⟨fun b hb1 hb2=>?_,?_,bm h3 (bm hb.size hg.size)⟩
 ·rw[hg.block b (by have:=hb.size;omega) ?_,hb.block b ae,h1 b hb1 hb2];rcases h2 with h2|⟨g,h2,h4⟩
  ·rw[h2];exact hb2
  ·rw[h2];intro e;injection e with e;omega
 ·rcases hat with hat|hat
  ·rw[hat];exact h2
  ·exact .inr ⟨_,hat,by have:=hb.size;omega⟩
def Mx(k:IntKind)(e:TypeId)(base:Nat)(v:Value)(L:List Int)(w:World)(en:Ending)(w':World):Prop:=(∃v',en=.returned v'/\aL w' base e k v' L/\p5 w w' v v')/\Below base w w'
theorem BV{w:World}(hb:Below base w w'):Sm (fun b=>b<base) w w':=fun b h=>hb.block b h
theorem Rb(base:Nat)(v:Value)(L:List Int)(hv:aL w base 44 .u64 v L)(nP:base<=w.heap.size)(hL:L.length<=100000)(B:Option Addr)(l:List Int)(d bl n:Nat)(hbl:bl=l.length)(hr:cA w (fun b=>b<base) .i64 B l)(lu:bl<=100000)(hn:n<=1000)(hlv:∀z∈l,0<=z/\z<18446744073709551616) :
 Calls prog 196 #[v,.slice B bl d,n] w (Mx .u64 44 base v (L++Mo.lM l n) w):=by
 have HR:=aa hr;have kt:=aa hbl;have PJ:=aa hlv
 obtain⟨A0,c0,rfl⟩:=hv.shape
 have HV:=aa hv
 obtain⟨ll,hL2⟩:=aD L.length
 rw[<-hL2]at hL HV ⊢
 have AJ:=aa hL2
 clear hr hbl hlv hv hL2
 go_enter func196,ntmps196
 go_wp2_with fail
 go_loopw[0,7,8,10] (fun o _ _ i wr=>∃k:Nat,k<=n/\i=k/\Hid (aL wr base 44 .u64 o (L++Mo.lM l k))/\Hid (Below base w wr)/\Hid (p5 w wr (.slice A0 ll c0) o)) (fun _ _ _ i _=>n-(intOf i).toNat)
 case atStart=>refine⟨0,aY _,rfl,?_,Below.refl _ _,p5.refl _ _⟩;show aL _ _ _ _ _ _;have e:Mo.lM l 0=[]:=List.eq_nil_of_length_eq_zero (kj l 0);rw[e,List.append_nil];exact HV.out
 case round =>
  obtain⟨k,hk,rfl,HO,HB,HGR⟩:=hrel;have hsz:=HB.size;by_cases hlt:k<n
  ·have hnx:=IZ l k;have hlk:=kj l k;obtain⟨M,hM⟩:=aD (L++Mo.lM l k);have hMl:M.length=ll+k:=by rw[hM,eN,hlk,AJ.out]
   rw[<-hM]at HO;have HM:=aa hM;have qQ:=aa hnx;clear hM hnx hlk;by_cases hkl:k<bl
   ·obtain⟨ad,z,hA,hz,hc⟩:=bC.at_ (cA.same (BV HB) HR).1 (i:=k) (by rw[<-kt.out];exact hkl);subst hA;have hz0:=PJ.out z (dO hz);have hw:IntKind.u64.wrap z=z:=by simp only[ig];omega
    have d1:decide ((k:Int)<(bl:Int))=true:=dg ae;have HE:Hid (L++Mo.lM l (k+1)=M++[z]):=by unfold Hid;rw[qQ.out,au (by rw[<-kt.out];exact hkl),eR,hz,HM.out,List.append_assoc];rfl
    clear hz hz0;go_wp2_with(at_builtin;refine cP _ rfl _ _ 43 rfl base 44 .u64 underlying43 gg _ M rfl (HO.alloc _) wr.heap.size 1 1 [z] rfl rfl (bC.one _ .u64 z _) ?c4 ?c5 ?_)
    case c4=>simp;omega
    case c5=>simp;omega
    exact aas
   ·have d1:decide ((k:Int)<(bl:Int))=false:=bJ ae;have HE:Hid (L++Mo.lM l (k+1)=M++[0]):=by
     unfold Hid;rw[qQ.out,ai (by rw[<-kt.out];exact hkl),HM.out,List.append_assoc]
    go_wp2_with(at_builtin;refine cP _ rfl _ _ 43 rfl base 44 .u64 underlying43 gg _ M rfl (HO.alloc _) wr.heap.size 1 1 [0] rfl rfl (bC.one _ .u64 0 _) ?c6 ?c7 ?_)
    case c6=>simp;omega
    case c7=>simp;omega
    exact aas
  ·have qp:k=n:=ae;subst qp;go_wp2_with fail;go_ret;exact⟨⟨_,rfl,HO,HGR⟩,HB⟩
end
attribute [local go_sem ↓] Go.wp_at_zero Go.wp_at_succ
theorem map_take{β:Type}(f:α->β){l:List α}(h:l[k]?=some z):(l.take (k+1)).map f=(l.take k).map f++[f z]:=by rw[fz h,List.map_append];rfl
theorem aL.aat(w:World)(e:TypeId)(k:IntKind)(z:Int):aL (w.alloc (.cells #[.int k z] e)) w.heap.size e k (.slice w.heap.size 1 1) [z]:=World.ownsRow_lit w #[.int k z] 1 (aS _) (by unfold maxLen;omega) rfl
section
variable(w:World)
theorem ub(base:Nat)(v:Value)(L:List Int)(hv:aL w base 44 .u64 v L)(nP:base<=w.heap.size)(hL:L.length<=100000)(B:Option Addr)(l:List Mo.Rs)(d n:Nat)(hn:n=l.length)(hr:dv w (fun b=>b<base) dA B l)(lu:n<=1000) :
 Calls prog 199 #[v,.slice B n d] w (Mx .u64 44 base v (L++l.map Mo.fQ) w):=by
 have HR:=aa hr;have HN:=aa hn
 obtain⟨A0,c0,rfl⟩:=hv.shape
 have HV:=aa hv
 obtain⟨ll,hL2⟩:=aD L.length
 rw[<-hL2]at hL HV ⊢
 have AJ:=aa hL2
 clear hr hn hv hL2
 go_enter func199,ntmps199
 go_wp2_with fail
 go_loopw[0,6,9] (fun o _ i wr=>∃k:Nat,k<=n/\i=k/\Hid (aL wr base 44 .u64 o (L++(l.take k).map Mo.fQ))/\Hid (Below base w wr)/\Hid (p5 w wr (.slice A0 ll c0) o)) (fun _ _ i _=>n-(intOf i).toNat)
 case atStart=>refine⟨0,aY _,rfl,?_,Below.refl _ _,p5.refl _ _⟩;show aL _ _ _ _ _ _;rw[List.take_zero,List.map_nil,List.append_nil];exact HV.out
 case round =>
  obtain⟨k,hk,rfl,HO,HB,HGR⟩:=hrel;have hsz:=HB.size;by_cases hlt:k<n
  ·obtain⟨ad,z,hA,hz,c0,c1,c2,c3⟩:=cN.res (dv.same (BV HB) HR).1 (i:=k) (by rw[<-HN.out];exact hlt);subst hA;rw[add_lit _ _ ah]at c1 c2 c3;obtain⟨M,hM⟩:=aD (L++(l.take k).map Mo.fQ);have hMl:M.length<=ll+k:=by rw[hM,eN,eK,eW,AJ.out];omega
   rw[<-hM]at HO;have HE:Hid (L++(l.take (k+1)).map Mo.fQ=M++[Mo.fQ z]):=by unfold Hid;rw[map_take _ hz,hM,List.append_assoc]
   have HG:=aa (qj (wr.alloc (pD z.seq z.cs z.code z.value)) z.seq z.cs z.code z.value);rw[show DW z.seq z.cs z.code z.value=Mo.fQ z from rfl]at HG;obtain⟨wd,hwd⟩:=aD (Mo.fQ z);rw[<-hwd]at HG HE;clear hz hM hwd;go_wp2_with fail;refine HG.mono ?_;rintro e w1 ⟨rfl,hb1⟩;have bj:=aa (ag (ak (aj wr) (pD z.seq z.cs z.code z.value)) hb1);have jO:=aa (HO.ag bj);have hs1:=bj.size;clear hb1 HG;go_wp2_with(at_builtin;refine cP _ rfl _ _ 43 rfl base 44 .u64 underlying43 gg _ M rfl (jO.alloc _) w1.heap.size 1 1 [wd] rfl rfl (bC.one _ .u64 wd _) ?c4 ?c5 ?_)
   case c4=>simp;omega
   case c5=>simp;omega
   intro v' w2 hown' hgrow hat;have V9:=aa (HGR.step (bj.alloc ae _) hgrow (by simpa using hat));have hb2:=(jO.alloc _).br ((HB.trans (bj.mono ae)).alloc ae _) hgrow (by simp;omega) (aS _);have zI:=aa hown';have Wa:=aa hb2;clear hown' hgrow hb2 hat;go_wp2;go_roundw;case rel=>exact⟨k+1,ae,by go_num,by rw[HE.out];exact zI.out,Wa,V9⟩
   case measure=>simp[intOf];omega
  ·have qp:k=n:=ae;subst qp;go_wp2_with fail;go_ret;have e:L++l.map Mo.fQ=L++(l.take k).map Mo.fQ:=by rw[qY HN.out (aS _)]
   rw[e];exact⟨⟨_,rfl,HO,HGR⟩,HB⟩
theorem Ez(hf:Mo.jo c h=true){x:Mo.Ch}(hx:x∈h.chans):(0<=x.gen/\x.gen<=4095)/\(0<=x.cap/\x.cap<=c.cap/\c.cap<=8)/\((x.buf.length:Int)<=x.cap)/\(0<=c.cap)/\∀v∈x.buf,0<=v/\v<=4294967295:=by unfold Mo.jo at hf;simp only[dI,beq_iff_eq]at hf;obtain⟨⟨⟨⟨⟨⟨⟨h1,h2⟩,h3⟩,h4⟩,h5⟩,h6⟩,h7⟩,h8⟩:=hf;have hx:=List.all_eq_true.1 h7 x hx;unfold Mo.kZ Mo.gz at hx;simp only[dI,Mo.iy,cU,List.all_eq_true]at hx;obtain⟨_,_,_,_,_,_,ho⟩:=aG h1;obtain⟨_,kg,_⟩:=oL ho h2;obtain⟨⟨⟨a1,a2⟩,a3,a4⟩,_⟩:=hx;exact⟨a1,⟨a2.1,a2.2,kg.2⟩,a3,kg.1,a4⟩
theorem My(base:Nat)(v:Value)(L:List Int)(hv:aL w base 44 .u64 v L)(nP:base<=w.heap.size)(hL:L.length<=100000)(B:Option Addr)(l:List Int)(d bl n:Nat)(ni:Int)(hni:ni=n)(hbl:bl=l.length)(hr:cA w (fun b=>b<base) .i64 B l)(lu:bl<=100000)(hn:n<=1000)(hlv:∀z∈l,0<=z/\z<18446744073709551616) :
 Calls prog 196 #[v,.slice B bl d,ni] w (Mx .u64 44 base v (L++Mo.lM l n) w):=by
 subst hni
 exact Rb w base v L hv nP hL B l d bl n hbl hr lu hn hlv
theorem yN{f:α->List Int}(hf:∀x,(f x).length=m)(l:List α):(l.flatMap f).length=l.length*m:=by
 induction l with
 |nil=>simp
 |cons x l ih=>simp[hf,ih,Nat.add_mul,Nat.add_comm]
theorem yO(c:Mo.bH)(x:Mo.Ch):(Mo.mO c x).length=1+c.cap.toNat:=by unfold Mo.mO;rw[List.length_cons,kj];omega
theorem GI{a:Nat}(ha:a<=8)(hb:b<=9):a*b+1<=1000:=by have:=Nat.mul_le_mul ha hb;omega
theorem Rc(hf:Mo.jo c h=true):0<=c.cap/\c.cap<=8:=by unfold Mo.jo at hf;simp only[dI,beq_iff_eq]at hf;obtain⟨⟨⟨⟨⟨⟨⟨h1,h2⟩,_⟩,_⟩,_⟩,_⟩,_⟩,_⟩:=hf;obtain⟨_,_,_,_,_,_,ho⟩:=aG h1;exact(oL ho h2).2.1
theorem wk(hf:Mo.jo c h=true)(hx:x∈h.waits):(0<=x.ay/\x.ay<=4294967295)/\(0<=x.seq/\x.seq<=1048575)/\x.cases.length<=3/\Mo.bt ⟨3,0,0,false,x.cases⟩=true:=by
 unfold Mo.jo at hf;simp only[dI]at hf;have hx:=List.all_eq_true.1 hf.2 x hx;unfold Mo.gi at hx;split at hx
 ·simp only[dI,beq_iff_eq,cU]at hx;obtain⟨⟨h1,h2⟩,h3⟩:=hx;rw[List.eq_nil_of_length_eq_zero h3];exact⟨ae,ae,ah,ah⟩
 ·simp only[dI,Mo.iy,cU]at hx;obtain⟨⟨⟨h1,h2⟩,h3⟩,h4⟩:=hx;exact⟨h1,h2,ae,h4⟩
theorem BW(x:Mo.Wt)(h:Mo.bt ⟨3,0,0,false,x.cases⟩=true):Mo.lW x=(Mo.flag x.on+x.cases.length*2+x.seq*16+x.ay*4294967296)::((Mo.jH ⟨3,0,0,false,x.cases⟩ 0).drop 1).take 3:=by
 have hl:x.cases.length<=3:=by unfold Mo.bt at h;simp only[dI,cU]at h;exact h.1.2
 unfold Mo.lW Mo.jH;rw[h,show Mo.fits 0 4294967296=true by decide];simp only[Bool.and_self,if_true,List.drop_succ_cons,List.drop_zero];congr 1;rw[List.take_left' (by rw[eN,eK,gf];omega)]
theorem yP(hf:Mo.jo c h=true)(hx:x∈h.waits):(Mo.lW x).length=4:=by have:=(wk hf hx).2.2.1;unfold Mo.lW;rw[List.length_cons,eN,eK,gf];omega
theorem wm{f:α->List Int}(l:List α)(hf:∀x∈l,(f x).length=m):(l.flatMap f).length=l.length*m:=by
 induction l with
 |nil=>simp
 |cons x l ih=>simp[hf x (List.mem_cons_self ..),ih (fun y hy=>hf y (List.mem_cons_of_mem _ hy)),Nat.add_mul,Nat.add_comm]
theorem I0{cs:List Mo.Cs}(h:Mo.bt ⟨3,0,0,false,cs⟩=true):(Mo.jH ⟨3,0,0,false,cs⟩ 0).length=5:=by
 have hl:cs.length<=3:=by unfold Mo.bt at h;simp only[dI,cU]at h;exact h.1.2
 unfold Mo.jH;rw[h,show Mo.fits 0 4294967296=true by decide];simp only[Bool.and_self,if_true,List.length_cons,eN,eK,gf,List.length_nil];omega
theorem Mz(cs:List Mo.Cs):kf 3 0 0 false cs 0=Mo.jH ⟨3,0,0,false,cs⟩ 0:=by unfold kf Mo.jH;simp only[dI];rfl
theorem wu(t e:TypeId)(ht:P.underlying t=some (.slice e))(hi:(P.info? e).map (fun i=>(i.zero,i.size,i.bytes))=some (some (.int .u64 0),1,8))(A:Option Addr)(n c a b:Nat)(X Y:Int)(hX:X=(a:Int))(hY:Y=(b:Int))(hab:a<=b)(hm:b<=c)(w:World) :
 (Instr.slice t (.slice A n c) (some X) (some Y) none).run P w=.ok (.slice (lT A c a) (b-a) (c-a)) w:=by
 subst hX;subst hY
 obtain⟨i,iY,_,qf,_⟩:=info_parts hi
 have h0:0<=(a:Int)/\(a:Int)<=(b:Int):=ae
 have h1:0<=(b:Int)/\(b:Int)<=(c:Int):=ae
 simp[Instr.slice,Instr.sliceBounds,run_underlying ht,sizeOf,typeInfo,iY,run_sliceBound_if,h1,qf,lT,hab]
theorem m8(hf:Mo.jo c h=true):h.chans.length<=8/\(h.waits.length:Int)=c.threads/\(h.done.length:Int)=c.threads/\c.threads<=64:=by unfold Mo.jo Mo.lV at hf;simp only[dI,beq_iff_eq,cU]at hf;obtain⟨⟨⟨⟨⟨⟨⟨h1,h2⟩,h3⟩,h4⟩,h5⟩,h6,_⟩,h7⟩,h8⟩:=hf;obtain⟨ht,_,_,_,_,_,ho⟩:=aG h1;obtain⟨hch,_⟩:=oL ho h2;exact⟨ae,h5,h6,ht.2⟩
theorem yQ(f:α->List Int){l:List α}(h:l[k]?=some z):(l.take (k+1)).flatMap f=(l.take k).flatMap f++f z:=by rw[fz h,List.flatMap_append];simp
theorem BX(hc:Mo.aN c=true)(hn:n=c.start.length)(hr:bC w .i64 A c.start)(h:Mo.Hl)(A1 A2 A3:Option Addr)(n1 n2 n3 m1 m2 m3:Nat)(nS:n1=h.chans.length)(sY:n2=h.waits.length)(ua:n3=h.done.length)(tZ:∀b,S b->b<w.heap.size)(h1:jF 5 TV w S A1 h.chans)(h2:jF 4 TX w S A2 h.waits)(h3:dv w S dA A3 h.done)(l1:n1<=100000)(l2:n2<=100000)(l3:n3<=100000)(l4:∀x∈h.chans,x.buf.length<=100000)(l5:∀x∈h.waits,x.cases.length<=100000) :
 Calls prog 144 #[.agg #[c.kind,c.threads,c.chans,c.cap,c.nodes,c.aJ,c.aB,c.tags,c.bn,c.ba,.slice A n k],.agg #[h.ay,.slice A1 n1 m1,.slice A2 n2 m2,.slice A3 n3 m3]] w (sI (Mo.oq c h) w):=by
 have HF:=aa (IX ((w.alloc (cr c A n k)).alloc (sB h.ay A1 n1 m1 A2 n2 m2 A3 n3 m3)) hc hn ((hr.alloc _).alloc _) (k:=k) h A1 A2 A3 n1 n2 n3 m1 m2 m3 nS sY ua (S:=S) (fun b hs=>by have:=tZ b hs;simp;omega) (h1.below b9 tZ (ak (ak (aj w) _) _)) (h2.below aP tZ (ak (ak (aj w) _) _)) ((h3.1.alloc _).alloc _) l1 l2 l3 l4 l5)
 have lJ:Hid (Below w w ((w.alloc (cr c A n k)).alloc (sB h.ay A1 n1 m1 A2 n2 m2 A3 n3 m3))):=ak (ak (aj w) _) _
 have gV:Hid (af ((w.alloc (cr c A n k)).alloc (sB h.ay A1 n1 m1 A2 n2 m2 A3 n3 m3)) w.heap.size 24 #[c.kind,c.threads,c.chans,c.cap,c.nodes,c.aJ,c.aB,c.tags,c.bn,c.ba,.slice A n k]):=(af.new w _ _).alloc _
 have fh:Hid (af ((w.alloc (cr c A n k)).alloc (sB h.ay A1 n1 m1 A2 n2 m2 A3 n3 m3)) (w.heap.size+1) 71 #[h.ay,.slice A1 n1 m1,.slice A2 n2 m2,.slice A3 n3 m3]):=af.newAt (w.alloc (cr c A n k)) _ _ aF
 rcases AU:Mo.jo c h with _|_
 ·rw[AU]at HF;have HE:Hid (Mo.oq c h=[]):=by unfold Hid Mo.oq;rw[AU];rfl
  rw[HE.out];obtain⟨ay,chans,waits,done⟩:=h;dsimp only at HF lJ gV fh ⊢;clear AU HE nS sY ua h1 h2 h3 l1 l2 l3 l4 l5 hn hr hc tZ;go_enter func144,ntmps144;exact T4
 ·rw[AU]at HF;have HE:Hid (Mo.oq c h=h.ay::(h.chans.flatMap (Mo.mO c)++h.waits.flatMap Mo.lW++h.done.map Mo.fQ)):=by unfold Hid Mo.oq;rw[AU];rfl
  have uA:=aa AU;have ht:0<=h.ay/\h.ay<=4294967295:=by unfold Mo.jo at AU;simp only[dI,Mo.iy,cU]at AU;exact AU.1.1.1.1.1.2
  have tw:IntKind.u64.wrap h.ay=h.ay:=by simp only[ig];omega
  have H1:=aa h1;have H2:=aa h2;have H3:=aa h3;have I1:=aa nS;have HN2:=aa sY;have PK:=aa ua;have AR:=aa tZ;rw[HE.out];obtain⟨ay,chans,waits,done⟩:=h;dsimp only at HF lJ gV fh tw H1 H2 H3 I1 HN2 PK ⊢;clear AU HE nS sY ua h1 h2 h3 l4 l5 hn hr hc tZ ht;go_enter func144,ntmps144;go_wp2_with fail;refine HF.mono ?_;rintro e w1 ⟨rfl,hb⟩;have HB:=aa (ag lJ hb);have kS:=gV.ag hb;have gR:=fh.ag hb;obtain⟨hc0,-,hz0⟩:=af.aK kS;obtain⟨hc1,-,hz1⟩:=af.aK gR;have I2:=aa kS;have Re:=aa gR;clear hb kS gR gV fh;go_wp2_with fail;have I3:=aL.aat w1 44 .u64 ay;have hb1:=ak (aj w1) (.cells #[.int .u64 ay] 44);generalize hw2:w1.alloc (.cells #[.int .u64 ay] 44)=w2 at I3 hb1 ⊢;have oW:=aa I3;have bj:=aa hb1;clear I3 hb1 hw2;go_loopw[5,7,22] (fun o _ i wr=>∃k:Nat,k<=n1/\i=k/\Hid (aL wr w1.heap.size 44 .u64 o (ay::(chans.take k).flatMap (Mo.mO c)))/\Hid (Below w1 w1 wr)) (fun _ _ i _=>n1-(intOf i).toNat);case atStart=>exact⟨0,aY _,rfl,oW,bj⟩
  case round =>
   obtain⟨k',hk,rfl,HO,bq⟩:=hrel;have hs2:=bq.size;have Rg:=aa (ag HB bq);have hc0:∀i,wr.cell? ⟨w.heap.size,i,none⟩=_:=fun i=>(bq.cell (p:=⟨w.heap.size,i,none⟩) hz0).trans (hc0 i);have hc1:∀i,wr.cell? ⟨w.heap.size+1,i,none⟩=_:=fun i=>(bq.cell (p:=⟨w.heap.size+1,i,none⟩) hz1).trans (hc1 i);by_cases hlt:k'<n1
   ·obtain⟨ad,z,r,hA,hz,hP,_,hcs⟩:=jF.at_ ah (H1.below b9 AR Rg) (i:=k') (by rw[<-I1.out];exact hlt);obtain⟨B,d,rfl,hd,Dp⟩:=hP;have c0:wr.cell? (ad.add (k'*5))=_:=hcs 0 _ rfl;have c1:=hcs 1 _ rfl;have c2:=hcs 2 _ rfl;have c3:=hcs 3 _ rfl;have c4:=hcs 4 _ rfl;obtain⟨bl,hbl⟩:=aD z.buf.length;rw[<-hbl]at c4;subst hA;rw[add_lit _ _ ah]at c1 c2 c3 c4;obtain⟨q1,q2,q3,q4,q5⟩:=Ez uA (dO hz);rw[<-hbl]at q3;obtain⟨M,hM⟩:=aD (ay::(chans.take k').flatMap (Mo.mO c));have hMl:M.length<=1000:=by rw[hM,List.length_cons,yN (yO c),eW];have:=I1.out;have l7:=(m8 uA).1;dsimp only at l7;have:=q2.2.2;exact GI ae ae
    rw[<-hM]at HO;have HE:Hid (ay::(chans.take (k'+1)).flatMap (Mo.mO c)=(M++[Mo.yu z])++Mo.lM z.buf c.cap.toNat):=by unfold Hid;rw[yQ _ hz,hM];unfold Mo.mO;simp
    have HH:=aa (fun w'=>Mw w' z B bl d hbl q1 ae ae);have PC:=aa Dp;obtain⟨cc,hcc⟩:∃cc:Nat,c.cap=cc:=⟨c.cap.toNat,ae⟩
    rw[show c.cap.toNat=cc by omega]at HE;have adU:cc<=8:=ae;have pW:=aa hcc;clear hcc;have kt:=aa hbl;have acP:bl<=100000:=ae;have pX:=aa q5;obtain⟨xB,hhd⟩:∃hd,hd=Mo.yu z:=⟨_,rfl⟩
    rw[<-hhd]at HE HH;clear hM hz hcs Dp hhd q1 q2 q3 q4 q5 hbl;go_wp2_with fail;have Rh:=af.new wr 83 #[z.gen,z.cap,z.used,z.closed,.slice B bl d];have GJ:=ak (aj wr) (qZ z B bl d);generalize hw3:(wr.alloc (qZ z B bl d))=w3 at Rh GJ ⊢;have T5:=aa GJ;have Wb:=aa (HO.ag GJ);have PL:=aa Rh;have acQ:=aa (I2.ag (bq.trans (GJ.mono ae)));obtain⟨h70,-,hz7⟩:=af.aK Rh;have hs3:=GJ.size;have TJ:w3.cell? ⟨w.heap.size,3,none⟩=some c.cap:=(GJ.cell (p:=⟨w.heap.size,3,none⟩) (by show w.heap.size < _;omega)).trans (hc0 3);have hzz:w.heap.size<w3.heap.size:=ae;have fI:Below w3 w3 w3.drew:=bO (n:=1) (aj w3);have fx:=aa (cA.mono (S':=fun b=>b<w1.heap.size) (fun b hb=>by have:=AR.out b hb;omega) PC);have Wc:=aa (bq.trans (GJ.mono ae));have YP:(fun w':World=>w'.cell? ⟨wr.heap.size,0,none⟩=some z.gen/\w'.cell? ⟨wr.heap.size,1,none⟩=some z.cap/\w'.cell? ⟨wr.heap.size,2,none⟩=some z.used/\w'.cell? ⟨wr.heap.size,3,none⟩=some z.closed/\w'.cell? ⟨wr.heap.size,4,none⟩=some (.slice B bl d)/\w'.cell? ⟨w.heap.size,3,none⟩=some c.cap) w3:=⟨h70 0,h70 1,h70 2,h70 3,h70 4,TJ⟩
    have T7:∀(w' w2:World),Below w' w' w2->wr.heap.size<w'.heap.size->w.heap.size<w'.heap.size->(fun w':World=>w'.cell? ⟨wr.heap.size,0,none⟩=some z.gen/\w'.cell? ⟨wr.heap.size,1,none⟩=some z.cap/\w'.cell? ⟨wr.heap.size,2,none⟩=some z.used/\w'.cell? ⟨wr.heap.size,3,none⟩=some z.closed/\w'.cell? ⟨wr.heap.size,4,none⟩=some (.slice B bl d)/\w'.cell? ⟨w.heap.size,3,none⟩=some c.cap) w'->(fun w':World=>w'.cell? ⟨wr.heap.size,0,none⟩=some z.gen/\w'.cell? ⟨wr.heap.size,1,none⟩=some z.cap/\w'.cell? ⟨wr.heap.size,2,none⟩=some z.used/\w'.cell? ⟨wr.heap.size,3,none⟩=some z.closed/\w'.cell? ⟨wr.heap.size,4,none⟩=some (.slice B bl d)/\w'.cell? ⟨w.heap.size,3,none⟩=some c.cap) w2:=by intro w' w2 hb l1 l2 h;obtain⟨a0,a1,a2,a3,a4,a5⟩:=h;exact⟨(hb.cell (p:=⟨wr.heap.size,0,none⟩) l1).trans a0,(hb.cell (p:=⟨wr.heap.size,1,none⟩) l1).trans a1,(hb.cell (p:=⟨wr.heap.size,2,none⟩) l1).trans a2,(hb.cell (p:=⟨wr.heap.size,3,none⟩) l1).trans a3,(hb.cell (p:=⟨wr.heap.size,4,none⟩) l1).trans a4,(hb.cell (p:=⟨w.heap.size,3,none⟩) l2).trans a5⟩
    have KB:=aa T7;have YQ:=KB.out _ _ fI hz7 hzz YP;clear T7 hw3 GJ Rh hc0 hc1 c0 c1 c2 c3 c4 PC h70 TJ;dsimp only at YP YQ;go_region_held3(fun w'=>w'.cell? ⟨wr.heap.size,0,none⟩=some z.gen/\w'.cell? ⟨wr.heap.size,1,none⟩=some z.cap/\w'.cell? ⟨wr.heap.size,2,none⟩=some z.used/\w'.cell? ⟨wr.heap.size,3,none⟩=some z.closed/\w'.cell? ⟨wr.heap.size,4,none⟩=some (.slice B bl d)/\w'.cell? ⟨w.heap.size,3,none⟩=some c.cap) (first|assumption|go_keep)
     (first
     |(go_at_call 197;refine(HH _).mono ?_;rintro e wA ⟨rfl,bN⟩;have T8:=ag fI bN;have YR:=T8.size;have hSA:=KB.out _ _ T8 hz7 hzz YP;dsimp only at hSA
       have hzA:wr.heap.size<wA.heap.size:=ae
       have hzB:w.heap.size<wA.heap.size:=ae)
     |(refine mK rfl _ _ 43 rfl w1.heap.size 44 .u64 underlying43 gg _ M rfl ((Wb.ag T8).alloc _) wA.heap.size 1 1 [xB] rfl rfl (bC.one _ .u64 xB _) ?_ ?_ ?_
       ·simp;omega
       ·simp;omega
       intro v4 W4 bX bg _
       have hb4:=((Wb.ag T8).alloc _).br ((Wc.trans (T8.mono ae)).alloc ae (.cells #[.int .u64 xB] 44)) bg (by simp;omega) (aS _)
       have EA:=(PL.ag T8).alloc (.cells #[.int .u64 xB] 44)
       have Wd:=(acQ.ag T8).alloc (.cells #[.int .u64 xB] 44)
       have YS:=(Wb.ag T8).alloc (.cells #[.int .u64 xB] 44)
       have I4:=EA.grown bg (aV YS EA ah)
       have We:=Wd.grown bg (aV YS Wd ah)
       have AV:=fun i=>af.cell I4 i
       have YH:=af.cell We 3
       have YT:=aV bX I4 ah
       have KC:=aV bX We ah
       have hS4:W4.cell? ⟨wr.heap.size,0,none⟩=some z.gen/\W4.cell? ⟨wr.heap.size,1,none⟩=some z.cap/\W4.cell? ⟨wr.heap.size,2,none⟩=some z.used/\W4.cell? ⟨wr.heap.size,3,none⟩=some z.closed/\W4.cell? ⟨wr.heap.size,4,none⟩=some (.slice B bl d)/\W4.cell? ⟨w.heap.size,3,none⟩=some c.cap:=⟨AV 0,AV 1,AV 2,AV 3,AV 4,YH⟩
       have hs4:=bg.size
       obtain⟨A4,d4,hv4⟩:=bX.shape
       rw[eN,gC]at hv4
       subst hv4)
     |(go_at_call 196;refine(My _ w1.heap.size _ (M++[xB]) bX hb4.size (by simp;omega) B z.buf d bl cc c.cap pW kt (cA.same (fun b hb=>(hb4.block b hb).trans (bq.block b hb).symm) fx) acP ae (fun v hv=>by have:=pX.out v hv;omega)).mono ?_;rintro e wR ⟨⟨v9,rfl,T9,YU⟩,xC⟩
       have YV:∀g i,g<W4.heap.size->some g≠(Value.slice A4 (M.length+1) d4).ownBlock->wR.cell? ⟨g,i,none⟩=W4.cell? ⟨g,i,none⟩:=fun g i h1 h2=>(Sm.cell (S:=fun b=>b=g) (fun b hb=>by rw[hb];exact YU.1 g h1 h2) rfl)
       have hl7:wr.heap.size<W4.heap.size:=by have:=hs4;simp at this;omega
       have hl0:w.heap.size<W4.heap.size:=by have:=hs4;simp at this;omega
       have YW:wR.cell? ⟨wr.heap.size,0,none⟩=some z.gen/\wR.cell? ⟨wr.heap.size,1,none⟩=some z.cap/\wR.cell? ⟨wr.heap.size,2,none⟩=some z.used/\wR.cell? ⟨wr.heap.size,3,none⟩=some z.closed/\wR.cell? ⟨wr.heap.size,4,none⟩=some (.slice B bl d)/\wR.cell? ⟨w.heap.size,3,none⟩=some c.cap:=⟨(YV _ _ hl7 YT).trans (AV 0),(YV _ _ hl7 YT).trans (AV 1),(YV _ _ hl7 YT).trans (AV 2),(YV _ _ hl7 YT).trans (AV 3),(YV _ _ hl7 YT).trans (AV 4),(YV _ _ hl0 KC).trans YH⟩))
    have zI:=aa T9;have Wa:=aa (hb4.trans xC);clear T9 xC YU hb4 bX bg YP YQ hSA hS4 YW EA Wd YS I4 We AV YH YT KC;go_wp2_with fail;go_roundw;case rel=>exact⟨k'+1,ae,by go_num,by rw[HE.out];exact zI.out,Wa⟩
    case measure=>simp[intOf];omega
   ·have qp:k'=n1:=ae;subst qp;have xV:Hid ((chans.take k')=chans):=qY I1 (aS _);rw[xV.out]at HO;obtain⟨M1,MA⟩:=aD (ay::chans.flatMap (Mo.mO c));have adV:M1.length<=1000:=by rw[MA,List.length_cons,yN (yO c)];have l7:=(m8 uA).1;dsimp only at l7;have:=Rc uA;exact GI ae ae
    rw[<-MA]at HO;have ud:=aa MA;clear MA;go_wp2_with fail;obtain⟨wo2,rfl⟩:∃wo:World,wo=wr:=⟨_,rfl⟩
    go_loopw[5,9,10,40] (fun o _ _ i wr=>∃k:Nat,k<=n2/\i=k/\Hid (aL wr w1.heap.size 44 .u64 o (M1++(waits.take k).flatMap Mo.lW))/\Hid (Below w1 w1 wr)) (fun _ _ _ i _=>n2-(intOf i).toNat);case atStart=>exact⟨0,aY _,rfl,by show aL _ _ _ _ _ _;rw[List.take_zero,List.flatMap_nil,List.append_nil];exact HO.out,bq⟩
    case round =>
     clear HO bq Rg hs2;obtain⟨k2,hk2,rfl,HO,bq⟩:=hrel;have hs2:=bq.size;have Rg:=aa (ag HB bq);by_cases xR:k2<n2
     ·obtain⟨ad,z,r,hA,hz,hP,_,hcs⟩:=jF.at_ ah (H2.below aP AR Rg) (i:=k2) (by rw[<-HN2.out];exact xR);obtain⟨B,d,rfl,hd,Dp⟩:=hP;have c0:wr.cell? (ad.add (k2*4))=_:=hcs 0 _ rfl;have c1:=hcs 1 _ rfl;have c2:=hcs 2 _ rfl;have c3:=hcs 3 _ rfl;obtain⟨bl,hbl⟩:=aD z.cases.length;rw[<-hbl]at c3;subst hA;rw[add_lit _ _ ah]at c1 c2 c3;obtain⟨q1,q2,q3,q4⟩:=wk uA (dO hz);rw[<-hbl]at q3;obtain⟨M,hM⟩:=aD (M1++(waits.take k2).flatMap Mo.lW);have hMl:M.length<=2000:=by rw[hM,eN,wm (waits.take k2) (fun x hx=>yP uA.out (List.mem_of_mem_take hx)),eW];have l7:=m8 uA;dsimp only at l7;have:=HN2.out;omega
      rw[<-hM]at HO;have hHE:=BW z;rw[<-hbl]at hHE;have HE:Hid (M1++(waits.take (k2+1)).flatMap Mo.lW=(M++[Mo.flag z.on+(bl:Int)*2+z.seq*16+z.ay*4294967296])++((Mo.jH ⟨3,0,0,false,z.cases⟩ 0).drop 1).take 3):=by unfold Hid;rw[yQ _ hz, <-List.append_assoc, <-hM,hHE q4,List.append_assoc];rfl
      have kt:=aa hbl;have VU:=nN z.on;have sj:=aa (fun w'=>wj w' z.on);obtain⟨f1,e1⟩:∃f,f=Mo.flag z.on:=⟨_,rfl⟩
      rw[<-e1]at VU sj HE;have lQ:=aa q4;have PC:=aa (dv.mono (S':=fun b=>b<w1.heap.size) (fun b hb=>by have:=AR.out b hb;have:=HB.size;omega) Dp);have lO:=I0 q4;obtain⟨Wf,GK,Dt,zcs⟩:=z;dsimp only at c0 c1 c2 c3 q1 q2 q3 sj HE lQ PC kt lO;have a1:IntKind.u64.wrap (bl:Int)=bl:=by simp only[ig];omega
      have a2:IntKind.u64.wrap ((bl:Int)*2)=(bl:Int)*2:=by simp only[ig];omega
      have a3:IntKind.u64.wrap Dt=Dt:=by simp only[ig];omega
      have a4:IntKind.u64.wrap (Dt*16)=Dt*16:=by simp only[ig];omega
      have a5:IntKind.u64.wrap GK=GK:=by simp only[ig];omega
      have a6:IntKind.u64.wrap (GK*4294967296)=GK*4294967296:=by simp only[ig];omega
      have o1:bits BinOp.or IntKind.u64 f1 ((bl:Int)*2)=f1+(bl:Int)*2:=lj 1 _ _ ae ae ae ae ae ae;have o2:bits BinOp.or IntKind.u64 (f1+(bl:Int)*2) (Dt*16)=f1+(bl:Int)*2+Dt*16:=lj 4 _ _ ae ae ae ae ae ae;have o3:bits BinOp.or IntKind.u64 (f1+(bl:Int)*2+Dt*16) (GK*4294967296)=f1+(bl:Int)*2+Dt*16+GK*4294967296:=lj 32 _ _ ae ae ae ae ae ae;obtain⟨xB,hhd⟩:∃hd,hd=f1+(bl:Int)*2+Dt*16+GK*4294967296:=⟨_,rfl⟩
      rw[<-hhd]at HE o3;clear hM hz hcs Dp hhd q1 q2 q4 hbl VU e1 hHE hd;go_wp2_with fail;have Rh:=af.new wr 79 #[Wf,GK,Dt,.slice B bl d];have GJ:=ak (aj wr) (.cells #[Wf,GK,Dt,.slice B bl d] 79);generalize hw3:(wr.alloc (.cells #[Wf,GK,Dt,.slice B bl d] 79))=w3 at Rh GJ ⊢;have Wb:=aa (HO.ag GJ);have PL:=aa Rh;obtain⟨h70,-,hz7⟩:=af.aK Rh;have hs3:=GJ.size;have fI:Below w3 w3 w3.drew:=bO (n:=1) (aj w3);have Wc:=aa (bq.trans (GJ.mono ae));have YP:w3.cell? ⟨wr.heap.size,0,none⟩=some Wf/\w3.cell? ⟨wr.heap.size,1,none⟩=some GK/\w3.cell? ⟨wr.heap.size,2,none⟩=some Dt/\w3.cell? ⟨wr.heap.size,3,none⟩=some (.slice B bl d):=⟨h70 0,h70 1,h70 2,h70 3⟩
      have YQ:w3.drew.cell? ⟨wr.heap.size,0,none⟩=some Wf/\w3.drew.cell? ⟨wr.heap.size,1,none⟩=some GK/\w3.drew.cell? ⟨wr.heap.size,2,none⟩=some Dt/\w3.drew.cell? ⟨wr.heap.size,3,none⟩=some (.slice B bl d):=⟨h70 0,h70 1,h70 2,h70 3⟩
      clear hw3 GJ Rh c0 c1 c2 c3 h70;go_region_held3(fun w'=>w'.cell? ⟨wr.heap.size,0,none⟩=some Wf/\w'.cell? ⟨wr.heap.size,1,none⟩=some GK/\w'.cell? ⟨wr.heap.size,2,none⟩=some Dt/\w'.cell? ⟨wr.heap.size,3,none⟩=some (.slice B bl d)) (first|assumption|go_keep)
       (first
       |(go_at_call 198;refine(sj _).mono ?_;rintro e wA ⟨rfl,rfl⟩)
       |(refine mK rfl _ _ 43 rfl w1.heap.size 44 .u64 underlying43 gg _ M rfl ((Wb.ag fI).alloc _) w3.heap.size 1 1 [xB] rfl rfl (bC.one _ .u64 xB _) ?_ ?_ ?_
         ·simp;omega
         ·simp;omega
         intro v4 W4 bX bg _
         have hb4:=((Wb.ag fI).alloc _).br ((Wc.trans (fI.mono ae)).alloc (by simp;omega) (.cells #[.int .u64 xB] 44)) bg (by simp;omega) (aS _)
         have EA:=(PL.ag fI).alloc (.cells #[.int .u64 xB] 44)
         have YS:=(Wb.ag fI).alloc (.cells #[.int .u64 xB] 44)
         have I4:=EA.grown bg (aV YS EA ah)
         have AV:=fun i=>af.cell I4 i
         have hS4:W4.cell? ⟨wr.heap.size,0,none⟩=some Wf/\W4.cell? ⟨wr.heap.size,1,none⟩=some GK/\W4.cell? ⟨wr.heap.size,2,none⟩=some Dt/\W4.cell? ⟨wr.heap.size,3,none⟩=some (.slice B bl d):=⟨AV 0,AV 1,AV 2,AV 3⟩
         have hs4:=bg.size))
      have HOW:=aa bX;have BC:=aa (vy W4 3 0 0 false B d zcs 0 (by rw[<-kt.out];omega) (dv.same (fun b hb=>(hb4.block b hb).trans (bq.block b hb).symm) PC).1);rw[Mz, <-kt.out]at BC;have fJ:=aa hb4;have hs5:=hb4.size;obtain⟨cw,hcw⟩:=aD (Mo.jH ⟨3,0,0,false,zcs⟩ 0);rw[<-hcw]at BC HE lO;have adW:wr.heap.size<W4.heap.size:=by have:=hs4;simp at this;omega
      clear hcw bX bg hb4 YP YQ hS4 EA YS I4;have adX:=AV;clear AV;go_wp2_with fail;refine(BC.mono fun _ _ h=>h.J).mono ?_;rintro e w5 ⟨⟨B5,d5,rfl,hd5,MD⟩,di⟩;rw[lO]at hd5 ⊢;have PA:=wu (P:=prog) 43 44 underlying43 gg B5 5 d5 1 4 1 4 rfl rfl ah ae;have GL:=aa ((MD.from ae 1).take 3:bC w5 .u64 (lT B5 d5 1) ((cw.drop 1).take 3));have aau:=aa (HOW.ag di);have iW:=aa (fJ.trans (di.mono hs5));have hs6:=di.size;clear MD di;go_wp2_with(at_builtin;refine cP _ rfl _ _ 43 rfl w1.heap.size 44 .u64 underlying43 gg _ (M++[xB]) rfl ?b1 (lT B5 d5 1) 3 (d5-1) ((cw.drop 1).take 3) rfl ?b0 ?b2 ?b3 ?b4 ?_)
      case b1=>exact aau.out
      case b0=>rw[eW,gm];omega
      case b2=>exact GL.out
      case b3=>rw[eW,gm];simp;omega
      case b4=>omega
      intro v6 w6 Ua ME _;have fO:=aau.br iW ME ae (aS _);have zI:Hid (aL w6 w1.heap.size 44 .u64 v6 ((M++[xB])++(cw.drop 1).take 3)):=by unfold Hid;simpa using Ua
      have Wa:=aa fO;clear Ua ME fO;go_wp2_with fail;go_roundw;case rel=>exact⟨k2+1,ae,by go_num,by rw[HE.out];exact zI.out,Wa⟩
      case measure=>simp[intOf];omega
     ·have qp:k2=n2:=ae;subst qp;have Du:Hid ((waits.take k2)=waits):=qY HN2 (aS _);rw[Du.out]at HO;have hs2:=bq.size;have gR:=Re.below bq hz1;have hc1:=fun i=>af.cell gR i;have adY:=gR.lt;obtain⟨M2,AL⟩:=aD (M1++waits.flatMap Mo.lW);have adZ:M2.length<=2000:=by rw[AL,eN,wm waits (fun x hx=>yP uA.out hx)];have l7:=m8 uA;dsimp only at l7;omega
      rw[<-AL]at HO;have Ub:n3<=1000:=by have l7:=m8 uA;dsimp only at l7;have:=PK.out;omega
      have zZ:=aa (ub wr w1.heap.size _ M2 HO hs2 ae A3 done m3 n3 PK (dv.mono (S':=fun b=>b<w1.heap.size) (fun b hb=>by have:=AR.out b hb;have:=HB.size;omega) (dv.same (fun b hb=>(ag HB bq).block b (AR b hb)) H3)) Ub);have Wh:Hid (ay::(chans.flatMap (Mo.mO c)++waits.flatMap Mo.lW++done.map Mo.fQ)=M2++done.map Mo.fQ):=by unfold Hid;rw[AL,ud.out];simp
      clear AL;go_wp2_with fail;refine zZ.mono ?_;rintro e w9 ⟨⟨v9,rfl,T9,_⟩,xC⟩;have HO9:=aa T9;have Uc:=aa (ag HB (bq.trans xC));clear T9 xC;go_wp2_with fail;go_ret;exact(congrArg (fun z=>sI z w (.returned v9) w9) Wh).mpr (HO9.QB Uc HB.size)
end
attribute [local go_sem ↓] Go.wp_at_zero Go.wp_at_succ
theorem BZ{h:Mo.Cl}(hf:Mo.mN c h=true):((h.list.length:Int)<=c.cap)/\(0<=c.cap/\c.cap<=16)/\(∀v∈h.list,0<=v/\v<=4294967295)/\(h.done.length:Int)=c.threads/\c.threads<=64:=by unfold Mo.mN Mo.gz Mo.lV at hf;simp only[dI,beq_iff_eq,cU,List.all_eq_true,Mo.iy]at hf;obtain⟨⟨⟨⟨h1,h2⟩,h3⟩,h4,h5⟩,h6,h7⟩:=hf;obtain⟨ht,_⟩:=aG h1;exact⟨h4,(BP h1).2.1,h5,h6,ht.2⟩
section
variable(w:World)
theorem B8(hc:Mo.aN c=true)(hn:n=c.start.length)(hr:bC w .i64 A c.start)(h:Mo.Cl)(A1 A3:Option Addr)(n1 n3 m1 m3:Nat)(nS:n1=h.list.length)(ua:n3=h.done.length)(tZ:∀b,S b->b<w.heap.size)(h1:cA w S .i64 A1 h.list)(h3:dv w S dA A3 h.done)(l1:n1<=100000)(l3:n3<=100000) :
 Calls prog 146 #[.agg #[c.kind,c.threads,c.chans,c.cap,c.nodes,c.aJ,c.aB,c.tags,c.bn,c.ba,.slice A n k],.agg #[h.cap,.slice A1 n1 m1,.slice A3 n3 m3]] w (sI (Mo.kD c h) w):=by
 have HF:=aa (IY ((w.alloc (cr c A n k)).alloc (kQ h.cap A1 n1 m1 A3 n3 m3)) hc hn ((hr.alloc _).alloc _) (k:=k) h A1 A3 n1 n3 m1 m3 nS ua ((h1.1.alloc _).alloc _) ((h3.1.alloc _).alloc _) l1 l3)
 have lJ:Hid (Below w w ((w.alloc (cr c A n k)).alloc (kQ h.cap A1 n1 m1 A3 n3 m3))):=ak (ak (aj w) _) _
 have gV:Hid (af ((w.alloc (cr c A n k)).alloc (kQ h.cap A1 n1 m1 A3 n3 m3)) w.heap.size 24 #[c.kind,c.threads,c.chans,c.cap,c.nodes,c.aJ,c.aB,c.tags,c.bn,c.ba,.slice A n k]):=(af.new w _ _).alloc _
 have fh:Hid (af ((w.alloc (cr c A n k)).alloc (kQ h.cap A1 n1 m1 A3 n3 m3)) (w.heap.size+1) 119 #[h.cap,.slice A1 n1 m1,.slice A3 n3 m3]):=af.newAt (w.alloc (cr c A n k)) _ _ aF
 rcases AU:Mo.mN c h with _|_
 ·rw[AU]at HF;have HE:Hid (Mo.kD c h=[]):=by unfold Hid Mo.kD;rw[AU];rfl
  rw[HE.out];obtain⟨cap,list,done⟩:=h;dsimp only at HF lJ gV fh ⊢;clear AU HE nS ua h1 h3 l1 l3 hn hr hc tZ;go_enter func146,ntmps146;exact T4
 ·rw[AU]at HF;obtain⟨q1,q2,q3,q4,q5⟩:=BZ AU;obtain⟨cc,hcc⟩:∃cc:Nat,c.cap=cc:=⟨c.cap.toNat,ae⟩
  have pW:=aa hcc;have HE:Hid (Mo.kD c h=([(n1:Int)]++Mo.lM h.list cc)++h.done.map Mo.fQ):=by unfold Hid Mo.kD;rw[AU,nS,show c.cap.toNat=cc by omega];rfl
  have H1:=aa h1;have H3:=aa h3;have I1:=aa nS;have PK:=aa ua;have AR:=aa tZ;have jc:=aa q3;have ad1:n1<=16:=ae;have adK:cc<=16:=ae;have acR:n3<=1000:=ae;have e1:IntKind.u64.wrap (n1:Int)=n1:=by simp only[ig];omega
  obtain⟨res,hres⟩:=aD (Mo.kD c h);rw[<-hres]at HE ⊢;obtain⟨cap,list,done⟩:=h;dsimp only at HF lJ gV fh HE H1 H3 I1 PK jc;clear AU nS ua h1 h3 l1 l3 hn hr hc tZ q1 q2 q3 q4 q5 hcc hres;go_enter func146,ntmps146;go_wp2_with fail;refine HF.mono ?_;rintro e w1 ⟨rfl,hb⟩;have HB:=aa (ag lJ hb);have kS:=gV.ag hb;have gR:=fh.ag hb;obtain⟨hc0,-,hz0⟩:=af.aK kS;obtain⟨hc1,-,hz1⟩:=af.aK gR;clear hb kS gR gV fh;have hS1:w1.cell? ⟨w.heap.size+1,1,none⟩=some (.slice A1 n1 m1)/\w1.cell? ⟨w.heap.size+1,2,none⟩=some (.slice A3 n3 m3)/\w1.cell? ⟨w.heap.size,3,none⟩=some c.cap:=⟨hc1 1,hc1 2,hc0 3⟩
  have YQ:w1.drew.cell? ⟨w.heap.size+1,1,none⟩=some (.slice A1 n1 m1)/\w1.drew.cell? ⟨w.heap.size+1,2,none⟩=some (.slice A3 n3 m3)/\w1.drew.cell? ⟨w.heap.size,3,none⟩=some c.cap:=⟨hc1 1,hc1 2,hc0 3⟩
  have I3:aL (w1.alloc (.cells #[.int .u64 n1] 44)).drew w1.heap.size 44 .u64 (.slice w1.heap.size 1 1) [(n1:Int)]:=(aL.aat w1 44 .u64 n1).ag (bO (n:=1) (aj _));have Ud:cA w1 (fun b=>b<w1.heap.size) .i64 A1 list:=cA.mono (fun b hb=>by have:=AR.out b hb;have:=HB.size;omega) (cA.same (fun b hb=>HB.block b (AR b hb)) H1);have jD:dv w1 (fun b=>b<w1.heap.size) dA A3 done:=dv.mono (fun b hb=>by have:=AR.out b hb;have:=HB.size;omega) (dv.same (fun b hb=>HB.block b (AR b hb)) H3);have HRI:=aa Ud;have lB:=aa jD;have hqv:∀v∈list,0<=v/\v<18446744073709551616:=fun v hv=>by have:=jc.out v hv;omega
  have HQV:=aa hqv;have hl9:([(n1:Int)]++Mo.lM list cc).length<=100000:=by rw[eN,kj];simp;omega
  have HL9:=aa hl9;have acS:n1<=100000:=ae;have acT:cc<=1000:=ae;clear Ud jD hqv hl9;have Wi:Below w1 w1 (w1.alloc (.cells #[.int .u64 n1] 44)).drew:=bO (n:=1) (ak (aj w1) _);have KB:∀w',Below w1 w1 w'->w'.cell? ⟨w.heap.size+1,1,none⟩=some (.slice A1 n1 m1)/\w'.cell? ⟨w.heap.size+1,2,none⟩=some (.slice A3 n3 m3)/\w'.cell? ⟨w.heap.size,3,none⟩=some c.cap:=fun w' hb=>⟨(hb.cell (p:=⟨w.heap.size+1,1,none⟩) hz1).trans (hc1 1),(hb.cell (p:=⟨w.heap.size+1,2,none⟩) hz1).trans (hc1 2),(hb.cell (p:=⟨w.heap.size,3,none⟩) hz0).trans (hc0 3)⟩
  have MF:=aa KB;have oW:=aa I3;clear KB hc0 hc1 I3;go_wp2_with fail;go_region_held3(fun w'=>w'.cell? ⟨w.heap.size+1,1,none⟩=some (.slice A1 n1 m1)/\w'.cell? ⟨w.heap.size+1,2,none⟩=some (.slice A3 n3 m3)/\w'.cell? ⟨w.heap.size,3,none⟩=some c.cap) (first|assumption|go_keep)
   (first
   |(go_at_call 196;refine(My _ w1.heap.size _ [(n1:Int)] oW Wi.size aF A1 list m1 n1 cc c.cap pW I1 (cA.same (fun b hb=>Wi.block b hb) HRI) acS acT HQV).mono ?_;rintro e wR ⟨⟨v9,rfl,T9,_⟩,xC⟩
     have hbR:=Wi.trans xC
     have hSR:=MF.out wR hbR)
   |(go_at_call 199;refine(ub _ w1.heap.size _ ([(n1:Int)]++Mo.lM list cc) T9 hbR.size HL9 A3 done m3 n3 PK (dv.same (fun b hb=>hbR.block b hb) lB) acR).mono ?_;rintro e wQ ⟨⟨v8,rfl,Ue,_⟩,AW⟩
     have hbQ:=hbR.trans AW
     have hSQ:=MF.out wQ hbQ))
  have Ri:=aa Ue;have HBQ:=aa (ag HB hbQ);clear T9 xC hbR hSR Ue AW hbQ hSQ hS1 YQ;go_wp2_with fail;go_ret;exact(congrArg (fun z=>sI z w (.returned v8) wQ) HE).mpr (Ri.QB HBQ HB.size)
end
def iO(w:World)(S:Nat->Prop)(g:Nat)(l:List Int):Prop:=∃A c,af w g 280 #[.slice A l.length c]/\l.length<=c/\cA w S .u64 A l
def dK(w:World)(S:Nat->Prop)(g:Nat)(l:List Int)(w':World):Prop:=iO w' S g l/\(∀b,b<w.heap.size->b≠g->w'.heap[b]?=w.heap[b]?)/\Below g w w'
theorem iO.lt(h:iO w S g l):g<w.heap.size:=by obtain⟨A,c,h,_⟩:=h;exact h.lt
theorem dK.refl(h:iO w S g l):dK w S g l w:=⟨h,fun _ _ _=>rfl,Below.refl _ _⟩
theorem dK.trans{l':List Int}(h:dK w S g l w1)(k:dK w1 S g l' w2):dK w S g l' w2:=⟨k.1,fun b hb hn=>(k.2.1 b (bF hb h.2.2.size) hn).trans (h.2.1 b hb hn),h.2.2.trans k.2.2⟩
theorem iO.ext(hs:∀b,S b->b<w.heap.size)(hb:Below w w w')(h:iO w S g l):iO w' S g l:=by obtain⟨A,c,h1,h2,h3⟩:=h;exact⟨A,c,h1.ag hb,h2,h3.same fun b hb'=>hb.block b (hs b hb')⟩
theorem dK.more(hs:∀b,S b->b<w.heap.size)(h:dK w S g l w1)(hb:Below w1 w1 w2):dK w S g l w2:=⟨h.1.ext (fun b hb'=>bF (hs b hb') h.2.2.size) hb,fun b hb' hn=>(hb.block b (bF hb' h.2.2.size)).trans (h.2.1 b hb' hn),h.2.2.trans (hb.mono (Nat.le_of_lt h.1.lt))⟩
theorem wE(t e:TypeId)(ht:P.underlying t=some (.slice e))(hi:(P.info? e).map (fun i=>(i.zero,i.size,i.bytes))=some (some (.int .u64 0),1,8))(A:Option Addr)(n c m:Nat)(X:Int)(hX:X=(m:Int))(hm:m<=n)(w:World) :
 (Instr.slice t (.slice A n c) (some X) none none).run P w=.ok (.slice (lT A c m) (n-m) (c-m)) w:=by
 subst hX
 obtain⟨i,iY,_,qf,_⟩:=info_parts hi
 have h0:0<=(m:Int)/\(m:Int)<=(n:Int):=ae
 simp[Instr.slice,Instr.sliceBounds,run_underlying ht,sizeOf,typeInfo,iY,run_sliceBound_if,h0,qf,lT]
theorem cA.from{k:IntKind}{c:Nat}(h:cA w S k A zs)(hc:zs.length<=c)(m:Nat):cA w S k (lT A c m) (zs.drop m):=by
 refine⟨h.1.from hc m,fun ad ha hne=>?_⟩;have hz:zs≠[]:=by rintro rfl;simp at hne
 unfold lT at ha;split at ha
 ·exact h.2 ad ha hz
 ·rcases A with _|a
  ·cases ha
  ·simp at ha;subst ha;have hb:(a.add m).block=a.block:=by unfold Addr.add;split<;>rfl
   rw[hb];exact h.2 a rfl hz
section
variable(w:World)
theorem lD(h:iO w S g l)(hs:∀b,S b->b≠g)(hl:l.length<=100000) :
 Calls prog 258 #[.pointer g] w fun e w'=>e=.returned (.int .u64 (l.getD 0 0))/\dK w S g (l.drop 1) w':=by
 have H:=aa h
 obtain⟨A,c,hk,kg,hr⟩:=h
 obtain⟨hcs,hfs,TC⟩:=af.aK hk
 rcases l with _|⟨x,l'⟩
 ·clear hk hr;dsimp only[List.length_nil]at hcs;go_enter func258,ntmps258;go_wp2_with fail;go_ret;exact⟨rfl,dK.refl H⟩
 ·obtain⟨ad,hA,hc0⟩:=hr.1 0 (.int .u64 x) rfl;subst hA;have aad:w.cell? ad=some (.int .u64 x):=hc0;obtain⟨n,hn⟩:=aD ((x::l').length);have nS:n=l'.length+1:=by rw[hn];rfl
  rw[<-hn]at hcs kg hl;have PA:=wE (P:=prog) 43 44 underlying43 gg (some ad) n c 1 1 rfl ae;have aav:(n:Int)≠0:=ae;have xB:((n:Int)==0)=false:=by simpa using aav
  have adL:(0:Int)<n:=ae;have HK:=aa hk;have HR:=aa hr;have HN:=aa hn;have I1:=aa nS;have HS:=aa hs;clear hk hr hn hc0 nS hs;go_enter func258,ntmps258;go_wp2_with fail;go_ret;refine⟨rfl,⟨lT (some ad) c 1,c-1,?_,?_,?_⟩,fun b _ hb=>dp _ _ _ _ hb,(Below.refl _ _).setCell (p:=⟨g,0,none⟩) (aS _) _⟩
  ·have:=HK.bb 0 (.slice (lT (some ad) c 1) (n-1) (c-1));have e:((x::l').drop 1).length=n-1:=by rw[I1.out];simp
   rw[e];exact this
  ·have e:((x::l').drop 1).length=n-1:=by rw[I1.out];simp
   rw[e];omega
  ·exact cA.same (fun b hb=>dp _ _ _ _ (HS b hb)) (HR.from (by rw[<-HN.out];exact kg) 1)
end
theorem fj{xs:List Value}(h:w.ownsRow base e m v n xs)(hs:∀b,v.ownBlock=some b->w'.heap[b]?=w.heap[b]?):w'.ownsRow base e m v n xs:=by
 obtain⟨h1,h2⟩:=h;refine⟨h1,?_⟩;rcases h2 with h2|⟨g',cap,cur,hv,hb,hh,r⟩
 ·exact Or.inl h2
 ·refine Or.inr ⟨g',cap,cur,hv,hb,?_,r⟩;rw[hs g' (by rw[hv];rfl)];exact hh
theorem dK.grow{row:Option Nat}(hg0:g<w.heap.size)(hs:∀b,S b->b<w.heap.size)(h:dK w S g l w1)(hg:w1.grownBy w2 row)(hr:∀b,row=some b->w.heap.size<=b):dK w S g l w2:=by
 obtain⟨⟨A,c,h1,h2,h3⟩,h4,h5⟩:=h;have hb:∀b,b<w.heap.size->w2.heap[b]?=w1.heap[b]?:=fun b hb=>hg.block b (bF hb h5.size) (fun e=>by have:=hr b e.symm;omega);refine⟨⟨A,c,?_,h2,h3.same fun b hb'=>hb b (hs b hb')⟩,fun b hb' hn=>(hb b hb').trans (h4 b hb' hn),?_⟩
 ·unfold af at h1 ⊢;rw[hb g hg0];exact h1
 ·exact Below.grown h5 hg (bm (Nat.le_of_lt hg0) h5.size) (fun b e=>by have:=hr b e;omega)
theorem z7{k:IntKind}(h:aL w base e k v zs):∀b,v.ownBlock=some b->base<=b:=fun _ hb=>(aX h hb).1
def oX(l:List Int)(s:Int)(k:Nat):List Int:=((l.take k).take s.toNat).map (·%4294967296)
theorem I5{s:Int}{z:Int}(h:l[k]?=some z):oX l s (k+1)=oX l s k++(if(k:Int)<s then[z%4294967296]else[]):=by unfold oX;exact aaw
section
variable(w:World)
theorem MG(h:iO w S g l)(hs:∀b,S b->b≠g)(hs2:∀b,S b->b<w.heap.size)(hl:l.length<=100000)(s:Int)(n:Nat)(hn:n<=l.length)(hu:∀z∈l,0<=z/\z<18446744073709551616) :
 Calls prog 266 #[.pointer (some ⟨g,0,none⟩),.int .i64 s,.int .i64 n] w fun e w'=>∃v,e=.returned v/\aL w' w.heap.size 3 .i64 v (oX l s n)/\dK w S g (l.drop n) w':=by
 have H:=aa h;have HS:=aa hs;have qR:=aa hs2;have HU:=aa hu
 have hg0:=h.lt
 clear h hs hs2 hu
 go_enter func266,ntmps266
 go_wp2_with fail
 go_loopw[7,8,9,11] (fun o _ _ i wr=>∃k:Nat,k<=n/\i=.int .i64 k/\Hid (aL wr w.heap.size 3 .i64 o (oX l s k))/\Hid (dK w S g (l.drop k) wr)) (fun _ _ _ i _=>n-(intOf i).toNat)
 case atStart=>exact⟨0,aY _,rfl,by rw[show oX l s 0=[]by unfold oX;simp];exact aL.nil _ _ _ _,dK.refl H⟩
 case round =>
  obtain⟨k,hk,rfl,HO,HR⟩:=hrel;by_cases hlt:k<n
  ·obtain⟨z,hz⟩:∃z,l[k]?=some z:=⟨l[k]'ae,cD _⟩
   have hz0:=HU.out z (dO hz);have HX:=aa (lD wr HR.1 HS (by rw[gm];omega));have hzd:(l.drop k).getD 0 0=z:=by rw[zy hz];rfl
   rw[hzd,List.drop_drop]at HX;have e1:=zC z hz0.1 hz0.2;have e2:IntKind.i64.wrap (z%4294967296)=z%4294967296:=bK _ ae;have uB:=I5 (s:=s) hz;have ju:(oX l s k).length<=k:=by unfold oX;rw[eK,eW,eW];omega
   obtain⟨M,hM⟩:=aD (oX l s k);rw[<-hM]at uB ju HO;have hsz:=HR.2.2.size;clear hz hz0 hzd hM;by_cases I6:(k:Int)<s
   ·have d1:decide ((k:Int)<s)=true:=dg I6;rw[au I6]at uB;have uC:=aa uB;clear I6 uB;go_wp2_with fail;refine HX.mono ?_;rintro e w1 ⟨rfl,hr1⟩;have gI:=aa (HR.trans hr1);have jO:Hid (aL w1 w.heap.size 3 .i64 _ M):=fj HO (fun b hb=>hr1.2.1 b (aX HO hb).2 (by have:=z7 HO b hb;omega));have hs1:=hr1.2.2.size;clear hr1;go_wp2_with(at_builtin;refine cP _ rfl _ _ 22 rfl w.heap.size 3 .i64 underlying22 Bh _ M rfl (jO.alloc _) (some ⟨w1.heap.size,0,none⟩) 1 1 [z%4294967296] rfl rfl (bC.one _ .i64 (z%4294967296) _) ?c4 ?c5 ?_)
    case c4=>simp;omega
    case c5=>simp;omega
    intro v' w2 hown' hgrow _;have g9:=aa ((gI.more qR (ak (aj w1) (.cells #[.int .i64 (z%4294967296)] 3))).grow hg0 qR hgrow (z7 jO));have zI:=aa hown';clear hown' hgrow;go_wp2;go_roundw;case rel=>exact⟨k+1,ae,by go_num,by rw[uC.out];exact zI.out,g9⟩
    case measure=>simp[intOf];omega
   ·have d1:decide ((k:Int)<s)=false:=bJ I6;rw[ai I6,List.append_nil]at uB;have uC:=aa uB;clear I6 uB;go_wp2_with fail;refine HX.mono ?_;rintro e w1 ⟨rfl,hr1⟩;have gI:=aa (HR.trans hr1);have jO:Hid (aL w1 w.heap.size 3 .i64 _ M):=fj HO (fun b hb=>hr1.2.1 b (aX HO hb).2 (by have:=z7 HO b hb;omega));clear hr1;go_wp2_with fail;go_roundw;case rel=>exact⟨k+1,ae,by go_num,by rw[uC.out];exact jO.out,gI⟩
    case measure=>simp[intOf];omega
  ·have qp:k=n:=ae;subst qp;go_wp2_with fail;go_ret;exact⟨_,rfl,HO,HR⟩
def rI(l:List Int)(k:Nat):List Mo.Rs:=(l.take k).map Mo.cS
theorem Rj:(prog.info? 48).map (fun i=>(i.zero,i.size,i.bytes))=some (some (.agg #[.int .i64 0,.int .i64 0,.int .i64 0,.int .i64 0]),4,32):=by kernel_rfl
theorem rJ(h:iO w S g l)(hs:∀b,S b->b≠g)(hs2:∀b,S b->b<w.heap.size)(hl:l.length<=100000)(n:Nat)(hn:n<=l.length)(hu:∀z∈l,0<=z/\z<18446744073709551616) :
 Calls prog 261 #[.pointer (some ⟨g,0,none⟩),.int .i64 n] w fun e w'=>∃v,e=.returned v/\aI w' w.heap.size 48 4 dA v (rI l n)/\dK w S g (l.drop n) w':=by
 have H:=aa h;have HS:=aa hs;have qR:=aa hs2;have HU:=aa hu
 have hg0:=h.lt
 clear h hs hs2 hu
 go_enter func261,ntmps261
 go_wp2_with fail
 go_loopw[5,7] (fun o i wr=>∃k:Nat,k<=n/\i=.int .i64 k/\Hid (aI wr w.heap.size 48 4 dA o (rI l k))/\Hid (dK w S g (l.drop k) wr)) (fun _ i _=>n-(intOf i).toNat)
 case atStart=>exact⟨0,aY _,rfl,aI.nil _ _ _ _ _,dK.refl H⟩
 case round =>
  obtain⟨k,hk,rfl,HO,HR⟩:=hrel;by_cases hlt:k<n
  ·obtain⟨z,hz⟩:∃z,l[k]?=some z:=⟨l[k]'ae,cD _⟩
   have hz0:=HU.out z (dO hz);have HX:=aa (lD wr HR.1 HS (by rw[gm];omega));have hzd:(l.drop k).getD 0 0=z:=by rw[zy hz];rfl
   rw[hzd,List.drop_drop]at HX;have uB:rI l (k+1)=rI l k++[⟨rS z,rC z,rO z,rV z⟩]:=by unfold rI;rw[fz hz,List.map_append];rfl
   have ju:(rI l k).length<=k:=by unfold rI;rw[eK,eW];omega
   obtain⟨M,hM⟩:=aD (rI l k);rw[<-hM]at uB ju HO;have hsz:=HR.2.2.size;have uC:=aa uB;have lB:=aa (fun w'=>ke w' z hz0.1 hz0.2);obtain⟨a1,h1⟩:∃a,a=rS z:=⟨_,rfl⟩
   obtain⟨a2,h2⟩:∃a,a=rC z:=⟨_,rfl⟩
   obtain⟨a3,h3⟩:∃a,a=rO z:=⟨_,rfl⟩
   obtain⟨a4,h4⟩:∃a,a=rV z:=⟨_,rfl⟩
   rw[<-h1, <-h2, <-h3, <-h4]at lB uC;clear hz hz0 hzd hM uB h1 h2 h3 h4;go_wp2_with fail;refine HX.mono ?_;rintro e w1 ⟨rfl,hr1⟩;have gI:=aa (HR.trans hr1);have jO:Hid (aI w1 w.heap.size 48 4 dA _ M):=fj HO (fun b hb=>hr1.2.1 b (aX HO hb).2 (by have:=(aX HO hb).1;omega));have hs1:=hr1.2.2.size;clear hr1;go_wp2_with fail;refine(lB w1).mono ?_;rintro e w2 ⟨rfl,hb2⟩;have g9:=aa (gI.more qR hb2);have eu:=aa (jO.ag hb2);have hs2:=hb2.size;clear hb2;go_wp2_with(at_builtin;refine cj _ rfl _ _ 69 rfl w.heap.size 48 4 32 (.agg #[.int .i64 0,.int .i64 0,.int .i64 0,.int .i64 0]) dA cm oV underlying69 Rj rfl ah _ M rfl ?b1 (some ⟨w2.heap.size,0,none⟩) 1 1 [⟨a1,a2,a3,a4⟩] rfl rfl ?b2 ?c4 ?c5 ?c6 ?_)
   case b1=>exact eu.ag (ak (aj w2) _)
   case b2=>exact Rd.lit w2 (dA ⟨a1,a2,a3,a4⟩) _
   case c4=>simp;omega
   case c5=>simp;omega
   case c6=>simp;omega
   intro v' w3 hown' hgrow _;have fx:=aa ((g9.more qR (ak (aj w2) (pD a1 a2 a3 a4))).grow hg0 qR hgrow (fun b hb=>(aX eu hb).1));have zI:=aa hown';clear hown' hgrow;go_wp2;go_roundw;case rel=>exact⟨k+1,ae,by go_num,by rw[uC.out];exact zI.out,fx⟩
   case measure=>simp[intOf];omega
  ·have qp:k=n:=ae;subst qp;go_wp2_with fail;go_ret;exact⟨_,rfl,HO,HR⟩
end
theorem Rk(x:Int)(h0:0<=x)(h1:x<18446744073709551616):bits BinOp.and IntKind.u64 x 4095=x%4096:=by rw[u64_and _ _ h0 h1 ae ae,show(4095:Int).toNat=2 ^ 12-1 from rfl,Nat.and_two_pow_sub_one_eq_mod];omega
theorem dK.set(hg0:g<w.heap.size)(hs:∀b,S b->b<w.heap.size)(h:dK w S g l w1){p:Addr}(hp:w.heap.size<=p.block)(u:Value):dK w S g l (w1.setCell p u):=by obtain⟨⟨A,c,h1,h2,h3⟩,h4,h5⟩:=h;have hb:∀b,b<w.heap.size->(w1.setCell p u).heap[b]?=w1.heap[b]?:=fun b hb=>dp _ _ _ _ ae;refine⟨⟨A,c,?_,h2,h3.same fun b hb'=>hb b (hs b hb')⟩,fun b hb' hn=>(hb b hb').trans (h4 b hb' hn),h5.setCell ae _⟩;unfold af at h1 ⊢;rw[hb g hg0];exact h1
theorem aax{t:TypeId}{a4:Value}(h:af w g t #[a0,a1,a2,a3,a4])(u0 u1 u2 u3 u4:Value) :
 af (((((w.setCell ⟨g,0,none⟩ u0).setCell ⟨g,1,none⟩ u1).setCell ⟨g,2,none⟩ u2).setCell ⟨g,3,none⟩ u3).setCell ⟨g,4,none⟩ u4) g t #[u0,u1,u2,u3,u4] :=
 ((((h.bb 0 u0).bb 1 u1).bb 2 u2).bb 3 u3).bb 4 u4
theorem GM(w:World)(h:iO w S g l)(hs:∀b,S b->b≠g)(hs2:∀b,S b->b<w.heap.size)(hl:l.length<=100000)(s:Int)(n:Nat)(ni:Int)(hni:ni=n)(hn:n<=l.length)(hu:∀z∈l,0<=z/\z<18446744073709551616) :
 Calls prog 266 #[.pointer g,s,ni] w fun e w'=>∃v,e=.returned v/\aL w' w.heap.size 3 .i64 v (oX l s n)/\dK w S g (l.drop n) w':=by
 subst hni
 exact MG w h hs hs2 hl s n hn hu
def aay(x:Mo.Ch)(w:World)(S:Nat->Prop)(g:Nat)(l:List Int)(e:Ending)(w':World):Prop :=∃B d,e=.returned (.agg #[x.gen,x.cap,x.used,x.closed,.slice B x.buf.length d])/\x.buf.length<=d/\cA w' (fun b=>w.heap.size<=b/\Ty w' 3 b) .i64 B x.buf/\dK w S g l w'
section
variable(w:World)
theorem I7(hc:Mo.aN c=true)(h:iO w S g l)(hs:∀b,S b->b≠g)(hs2:∀b,S b->b<w.heap.size)(hl:l.length<=100000)(hn:1+c.cap.toNat<=l.length)(hu:∀z∈l,0<=z/\z<18446744073709551616) :
 Calls prog 259 #[.pointer g,.agg #[c.kind,c.threads,c.chans,c.cap,c.nodes,c.aJ,c.aB,c.tags,c.bn,c.ba,.slice A n k]] w (aay (Mo.ky c l) w S g (l.drop (1+c.cap.toNat))):=by
 have hg0:=h.lt
 obtain⟨hkd,aA,_⟩:=BP hc
 obtain⟨cc,hcc⟩:∃cc:Nat,c.cap=cc:=⟨c.cap.toNat,ae⟩
 have pW:=aa hcc
 have hc2:c.cap.toNat=cc:=ae
 obtain⟨x,hx⟩:∃x,l[0]?=some x:=⟨l[0]'ae,cD _⟩
 have hx0:=hu x (dO hx)
 have hgx:l.getD 0 0=x:=by rw[eR,hx];rfl
 have HV:Hid (Mo.ky c l=⟨x%4096,x/4096%16,x/65536%2==1,x/131072%2==1,oX (l.drop 1) (x/1048576%16) cc⟩):=by unfold Hid Mo.ky oX;rw[hgx,hc2]
 rw[HV.out,hc2]
 have pJ:Below w w ((w.alloc (cr c A n k)).alloc pS):=ak (ak (aj w) _) _
 have qQ:=aa (lD ((w.alloc (cr c A n k)).alloc pS) (h.ext hs2 pJ) hs hl)
 rw[hgx]at qQ
 have EB:=aa (fun(w':World) (hr:iO w' S g (l.drop 1)) (hz:w.heap.size<=w'.heap.size)=>GM w' hr hs (fun b hb=>by have:=hs2 b hb;omega) (by rw[gm];omega) (x/1048576%16) cc c.cap hcc (by rw[gm];omega) (fun z hz=>hu z (List.mem_of_mem_drop hz)))
 have e1:=Rk x hx0.1 hx0.2
 have e2:=Gd (x/4096) ae ae
 have e3:=Qo (x/65536) ae ae
 have e4:=Qo (x/131072) ae ae
 have e5:=Gd (x/1048576) ae ae
 have f1:IntKind.i64.wrap (x%4096)=x%4096:=bK _ ae
 have f2:IntKind.i64.wrap (x/4096%16)=x/4096%16:=bK _ ae
 have f3:IntKind.i64.wrap (x/1048576%16)=x/1048576%16:=bK _ ae
 have lJ:=aa pJ
 have gV:Hid (af ((w.alloc (cr c A n k)).alloc pS) w.heap.size 24 #[c.kind,c.threads,c.chans,c.cap,c.nodes,c.aJ,c.aB,c.tags,c.bn,c.ba,.slice A n k]):=(af.new w _ _).alloc _
 have fh:Hid (af ((w.alloc (cr c A n k)).alloc pS) (w.heap.size+1) 83 #[oZ,oZ,false,false,oN]):=af.newAt (w.alloc (cr c A n k)) _ _ aF
 have qR:=aa hs2
 have KH:=aa (dK.more hs2 (dK.refl h) pJ)
 clear hx hx0 hgx HV hu hs hs2 h pJ hc hcc hc2 hn hl hkd aA
 go_enter func259,ntmps259
 go_wp2_with fail
 refine qQ.mono ?_
 rintro e w1 ⟨rfl,hr1⟩
 have gw:=aa (KH.trans hr1)
 have kS:af w1 w.heap.size 24 #[c.kind,c.threads,c.chans,c.cap,c.nodes,c.aJ,c.aB,c.tags,c.bn,c.ba,.slice A n k]:=(hr1.2.1 _ gV.lt ae).trans gV
 have gR:af w1 (w.heap.size+1) 83 #[oZ,oZ,false,false,oN]:=(hr1.2.1 _ fh.lt ae).trans fh
 obtain⟨hc0,-,hz0⟩:=af.aK kS
 have hz1:=gR.lt
 have I2:=aa kS;have Re:=aa gR
 have Ca:w.heap.size+2<=w1.heap.size:=by have:=hr1.2.2.size;simp at this;omega
 clear hr1 kS gR gV fh qQ
 go_wp2_with fail
 have MH:=gw.more qR (ak (aj w1) (.cells #[.int .i64 (x%4096),.int .i64 (x/4096%16),.bool (x/65536%2==1),.bool (x/131072%2==1),oN] 83))
 have HRX:=aa (EB _ MH.1 MH.2.2.size)
 have YX:=aa MH
 have hk2:=af.new w1 83 #[.int .i64 (x%4096),.int .i64 (x/4096%16),.bool (x/65536%2==1),.bool (x/131072%2==1),oN]
 have gR:=Re.alloc (.cells #[.int .i64 (x%4096),.int .i64 (x/4096%16),.bool (x/65536%2==1),.bool (x/131072%2==1),oN] 83)
 have aaz:w1.heap.size+1=(w1.alloc (.cells #[.int .i64 (x%4096),.int .i64 (x/4096%16),.bool (x/65536%2==1),.bool (x/131072%2==1),oN] 83)).heap.size:=aF
 have jv:=aa hk2;have aaA:=aa gR
 clear MH hk2 gR hc0 hz0 hz1 I2 Re EB
 refine HRX.mono ?_
 rintro e w2 ⟨v2,rfl,fN,hr2⟩
 obtain⟨B2,d2,rfl⟩:=fN.shape
 have rK:=fN.cap.2
 obtain⟨bf,AH⟩:=aD (oX (l.drop 1) (x/1048576%16) cc)
 rw[<-AH]at fN rK ⊢
 obtain⟨bl,hbl⟩:=aD bf.length
 rw[<-hbl]at fN rK ⊢
 have hk2:af w2 w1.heap.size 83 #[.int .i64 (x%4096),.int .i64 (x/4096%16),.bool (x/65536%2==1),.bool (x/131072%2==1),oN]:=(hr2.2.1 _ jv.lt ae).trans jv
 have gR:af w2 (w.heap.size+1) 83 #[oZ,oZ,false,false,oN]:=(hr2.2.1 _ aaA.lt ae).trans aaA
 obtain⟨hc2,hf2,hz2⟩:=af.aK hk2
 obtain⟨hc1,VU,hz1⟩:=af.aK gR
 have hne:w1.heap.size≠w.heap.size+1:=ae
 have z8:w.heap.size+1≠w1.heap.size:=ae
 have ad3:=aa hk2;have acU:=aa gR
 have eu:=aa fN;have g9:=aa (YX.trans hr2);have kt:=aa hbl;have HBF:=aa AH
 clear fN hr2 hk2 gR AH hbl HRX
 go_wp2_with fail
 have Bl:=aax (acU.far (p:=⟨w1.heap.size,4,none⟩) z8 (.slice B2 bl d2)) (.int .i64 (x%4096)) (.int .i64 (x/4096%16)) (.bool (x/65536%2==1)) (.bool (x/131072%2==1)) (.slice B2 bl d2)
 have Wj:dK w S g ((l.drop 1).drop cc) ((((((w2.setCell ⟨w1.heap.size,4,none⟩ (.slice B2 bl d2)).setCell ⟨w.heap.size+1,0,none⟩ (.int .i64 (x%4096))).setCell ⟨w.heap.size+1,1,none⟩ (.int .i64 (x/4096%16))).setCell ⟨w.heap.size+1,2,none⟩ (.bool (x/65536%2==1))).setCell ⟨w.heap.size+1,3,none⟩ (.bool (x/131072%2==1))).setCell ⟨w.heap.size+1,4,none⟩ (.slice B2 bl d2)):=((((((g9.set hg0 qR (p:=⟨w1.heap.size,4,none⟩) (by show _<=w1.heap.size;omega) _).set hg0 qR (p:=⟨w.heap.size+1,0,none⟩) (bU _) _).set hg0 qR (p:=⟨w.heap.size+1,1,none⟩) (bU _) _).set hg0 qR (p:=⟨w.heap.size+1,2,none⟩) (bU _) _).set hg0 qR (p:=⟨w.heap.size+1,3,none⟩) (bU _) _).set hg0 qR (p:=⟨w.heap.size+1,4,none⟩) (bU _) _)
 have Uf:aL ((((((w2.setCell ⟨w1.heap.size,4,none⟩ (.slice B2 bl d2)).setCell ⟨w.heap.size+1,0,none⟩ (.int .i64 (x%4096))).setCell ⟨w.heap.size+1,1,none⟩ (.int .i64 (x/4096%16))).setCell ⟨w.heap.size+1,2,none⟩ (.bool (x/65536%2==1))).setCell ⟨w.heap.size+1,3,none⟩ (.bool (x/131072%2==1))).setCell ⟨w.heap.size+1,4,none⟩ (.slice B2 bl d2)) (w1.heap.size+1) 3 .i64 (.slice B2 bl d2) bf:=by
  have AX:∀b,(Value.slice B2 bl d2).ownBlock=some b->w1.heap.size+1<=b:=fun b hb=>by have:=z7 eu b hb;omega
  have ho:=eu.out;rw[<-aaz]at ho;exact(cG (cG (cG (cG (cG (cG ho (p:=⟨w1.heap.size,4,none⟩) (fun b hb=>by have:=AX b hb;show b≠w1.heap.size;omega) _) (p:=⟨w.heap.size+1,0,none⟩) (fun b hb=>by have:=AX b hb;show b≠w.heap.size+1;omega) _) (p:=⟨w.heap.size+1,1,none⟩) (fun b hb=>by have:=AX b hb;show b≠w.heap.size+1;omega) _) (p:=⟨w.heap.size+1,2,none⟩) (fun b hb=>by have:=AX b hb;show b≠w.heap.size+1;omega) _) (p:=⟨w.heap.size+1,3,none⟩) (fun b hb=>by have:=AX b hb;show b≠w.heap.size+1;omega) _) (p:=⟨w.heap.size+1,4,none⟩) (fun b hb=>by have:=AX b hb;show b≠w.heap.size+1;omega) _)
 generalize((((((w2.setCell ⟨w1.heap.size,4,none⟩ (.slice B2 bl d2)).setCell ⟨w.heap.size+1,0,none⟩ (.int .i64 (x%4096))).setCell ⟨w.heap.size+1,1,none⟩ (.int .i64 (x/4096%16))).setCell ⟨w.heap.size+1,2,none⟩ (.bool (x/65536%2==1))).setCell ⟨w.heap.size+1,3,none⟩ (.bool (x/131072%2==1))).setCell ⟨w.heap.size+1,4,none⟩ (.slice B2 bl d2))=wf at Bl Wj Uf ⊢
 have l7:=fun i=>af.cell Bl i
 refine bodyPost_ret (v:=.agg #[.int .i64 (x%4096),.int .i64 (x/4096%16),.bool (x/65536%2==1),.bool (x/131072%2==1),.slice B2 bl d2]) ?_ rfl ?_
 ·simp[results,results259,go_sem,l7]
 ·refine⟨B2,d2,?_,?_,⟨?_,?_⟩,?_⟩
  ·rw[<-HBF.out, <-kt.out]
  ·rw[<-HBF.out, <-kt.out];exact rK
  ·rw[<-HBF.out];exact Uf.pU.2
  ·exact aaB
  ·rw[List.drop_drop]at Wj;exact Wj
end
theorem EC(x:Int)(h0:0<=x)(h1:x<18446744073709551616):bits BinOp.and IntKind.u64 x 1048575=x%1048576:=by rw[u64_and _ _ h0 h1 ae ae,show(1048575:Int).toNat=2 ^ 20-1 from rfl,Nat.and_two_pow_sub_one_eq_mod];omega
theorem acV(x:Int)(h0:0<=x)(h1:x<18446744073709551616):bits BinOp.and IntKind.u64 x 7=x%8:=by rw[u64_and _ _ h0 h1 ae ae,show(7:Int).toNat=2 ^ 3-1 from rfl,Nat.and_two_pow_sub_one_eq_mod];omega
theorem aaC{t:TypeId}(h:af w g t #[a0,a1,a2,a3])(u0 u1 u2 u3:Value) :
 af ((((w.setCell ⟨g,0,none⟩ u0).setCell ⟨g,1,none⟩ u1).setCell ⟨g,2,none⟩ u2).setCell ⟨g,3,none⟩ u3) g t #[u0,u1,u2,u3] :=
 (((h.bb 0 u0).bb 1 u1).bb 2 u2).bb 3 u3
def jw(l:List Int)(s:Int)(k:Nat):List Mo.Cs:=((l.take k).take s.toNat).map Mo.vd
theorem Cb{s:Int}{z:Int}(h:l[k]?=some z):jw l s (k+1)=jw l s k++(if(k:Int)<s then[Mo.vd z]else[]):=by unfold jw;exact aaw
theorem Rl:(prog.info? 110).map (fun i=>(i.zero,i.size,i.bytes))=some (some (.agg #[.int .i64 0,.int .i64 0,.int .i64 0]),3,24):=by kernel_rfl
def aaD(x:Mo.Wt)(w:World)(S:Nat->Prop)(g:Nat)(l:List Int)(e:Ending)(w':World):Prop :=∃B d,e=.returned (.agg #[.bool x.on,.int .i64 x.ay,.int .i64 x.seq,.slice B x.cases.length d])/\x.cases.length<=d/\dv w' (fun b=>w.heap.size<=b/\Ty w' 110 b) bk B x.cases/\dK w S g l w'
section
variable(w:World)
theorem I8(h:iO w S g l)(hs:∀b,S b->b≠g)(hs2:∀b,S b->b<w.heap.size)(hl:l.length<=100000)(hn:4<=l.length)(hu:∀z∈l,0<=z/\z<18446744073709551616) :
 Calls prog 260 #[.pointer (some ⟨g,0,none⟩)] w (aaD (Mo.k9 l) w S g (l.drop 4)):=by
 have hg0:=h.lt
 obtain⟨x,hx⟩:∃x,l[0]?=some x:=⟨l[0]'ae,cD _⟩
 have hx0:=hu x (dO hx)
 have hgx:l.getD 0 0=x:=by rw[eR,hx];rfl
 have HV:Hid (Mo.k9 l=⟨x%2==1,x/4294967296,x/16%1048576,jw (l.drop 1) (x/2%8) 3⟩):=by unfold Hid Mo.k9 jw;rw[hgx]
 rw[HV.out]
 have pJ:Below w.heap.size w (w.alloc (.cells #[.bool false,.int .i64 0,.int .i64 0,.slice none 0 0] 79)):=ak (aj w) _
 have qQ:=aa (lD (w.alloc (.cells #[.bool false,.int .i64 0,.int .i64 0,.slice none 0 0] 79)) (h.ext hs2 pJ) hs hl)
 rw[hgx]at qQ
 have e1:=Qo x hx0.1 hx0.2
 have e2:=EC (x/16) ae ae
 have e3:=acV (x/2) ae ae
 have f1:IntKind.i64.wrap (x/16%1048576)=x/16%1048576:=bK _ ae
 have f2:IntKind.i64.wrap (x/4294967296)=x/4294967296:=bK _ ae
 have f3:IntKind.i64.wrap (x/2%8)=x/2%8:=bK _ ae
 have gV:Hid (af (w.alloc (.cells #[.bool false,.int .i64 0,.int .i64 0,.slice none 0 0] 79)) w.heap.size 79 #[.bool false,.int .i64 0,.int .i64 0,.slice none 0 0]):=af.new w _ _
 have HS:=aa hs;have qR:=aa hs2;have HU:=aa hu
 have KH:=aa (dK.more hs2 (dK.refl h) pJ)
 obtain⟨m,hm⟩:=aD (x/2%8)
 rw[<-hm]at e3 f3 ⊢
 clear hx hx0 hgx HV hu hs hs2 h pJ hm
 go_enter func260,ntmps260
 go_wp2_with fail
 refine qQ.mono ?_
 rintro e w1 ⟨rfl,hr1⟩
 have gw:=aa (KH.trans hr1)
 have kS:af w1 w.heap.size 79 #[.bool false,.int .i64 0,.int .i64 0,.slice none 0 0]:=(hr1.2.1 _ gV.lt ae).trans gV
 have Ca:w.heap.size+1<=w1.heap.size:=by have:=hr1.2.2.size;simp at this;omega
 have I2:=aa kS
 clear hr1 kS gV qQ
 go_wp2_with fail
 have MH:=gw.more qR (ak (aj w1) (.cells #[.bool (x%2==1),.int .i64 (x/4294967296),.int .i64 (x/16%1048576),.slice none 0 0] 79))
 have hk2:=af.new w1 79 #[.bool (x%2==1),.int .i64 (x/4294967296),.int .i64 (x/16%1048576),.slice none 0 0]
 have gR:=I2.alloc (.cells #[.bool (x%2==1),.int .i64 (x/4294967296),.int .i64 (x/16%1048576),.slice none 0 0] 79)
 have aaz:w1.heap.size+1=(w1.alloc (.cells #[.bool (x%2==1),.int .i64 (x/4294967296),.int .i64 (x/16%1048576),.slice none 0 0] 79)).heap.size:=aF
 have YX:=aa MH;have jv:=aa hk2;have fh:=aa gR
 clear MH hk2 gR I2
 go_loopw[6,7,25] (fun _ _ i wr=>∃(k:Nat) (v:Value),k<=3/\i=.int .i64 k/\Hid (aI wr (w1.heap.size+1) 110 3 bk v (jw (l.drop 1) m k))/\Hid (af wr w1.heap.size 79 #[.bool (x%2==1),.int .i64 (x/4294967296),.int .i64 (x/16%1048576),v])/\Hid (af wr w.heap.size 79 #[.bool false,.int .i64 0,.int .i64 0,.slice none 0 0])/\Hid (dK w S g ((l.drop 1).drop k) wr)) (fun _ _ i _=>3-(intOf i).toNat)
 case atStart=>exact⟨0,.slice none 0 0,aY _,rfl,by rw[show jw (l.drop 1) m 0=[]by unfold jw;simp];exact aI.nil _ _ _ _ _,jv,fh,YX⟩
 case round =>
  obtain⟨k,v2,hk,rfl,HO,HKX,PL,HR⟩:=hrel;obtain⟨B2,d2,hv2,sR⟩:=HO.rd;obtain⟨bl,hbl⟩:=aD ((jw (l.drop 1) m k).length);rw[<-hbl]at hv2;subst hv2;have rK:bl<=d2:=by
   rcases HO.2 with⟨h',h0⟩|⟨g',cap',cur,h',_,_,hc,_⟩
   ·injection h' with _ h1 h2;omega
   ·injection h' with _ h1 h2;omega
  have kt:=aa hbl;have ad4:=aa sR;clear hbl sR;obtain⟨aT,kB,hzx⟩:=af.aK HKX;obtain⟨eO,hfz,hzz⟩:=af.aK PL;have AX:∀b,(Value.slice B2 bl d2).ownBlock=some b->w1.heap.size+1<=b:=fun b hb=>(aX HO hb).1;by_cases hlt:k<3
  ·obtain⟨z,hz⟩:∃z,(l.drop 1)[k]?=some z:=⟨(l.drop 1)[k]'(by rw[gm];omega),cD _⟩
   have hz0:=HU.out z (List.mem_of_mem_drop (dO hz));have HX:=aa (lD wr HR.1 HS (by rw[gm,gm];omega));have hzd:((l.drop 1).drop k).getD 0 0=z:=by rw[zy hz];rfl
   have hdd:((l.drop 1).drop k).drop 1=(l.drop 1).drop (k+1):=by rw[List.drop_drop]
   rw[hzd,hdd]at HX;have a1:=zD z hz0.1 hz0.2;have a2:=vq (z/256) ae ae;have b1:IntKind.i64.wrap (z%256)=z%256:=bK _ ae;have b2:IntKind.i64.wrap (z/256%65536)=z/256%65536:=bK _ ae;have b3:IntKind.i64.wrap (z/4294967296)=z/4294967296:=bK _ ae;have uB:=Cb (s:=m) hz;have ju:(jw (l.drop 1) m k).length<=3:=by unfold jw;rw[eK,eW,eW];omega
   obtain⟨M,hM⟩:=aD (jw (l.drop 1) m k);rw[<-hM]at uB ju HO;have hsz:=HR.2.2.size;clear hz hz0 hzd hdd hM;by_cases I6:(k:Int)<m
   ·have d1:decide ((k:Int)<m)=true:=dg I6;rw[au I6]at uB;have uC:=aa uB;clear I6 uB;go_wp2_with fail;refine HX.mono ?_;rintro e w3 ⟨rfl,hr3⟩;have fx:=aa (HR.trans hr3);have iP:Hid (aI w3 (w1.heap.size+1) 110 3 bk (.slice B2 bl d2) M):=fj HO (fun b hb=>hr3.2.1 b (aX HO hb).2 (by have:=AX b hb;omega));have Wk:af w3 w1.heap.size 79 #[.bool (x%2==1),.int .i64 (x/4294967296),.int .i64 (x/16%1048576),.slice B2 bl d2]:=(hr3.2.1 _ HKX.lt ae).trans HKX;have aaE:af w3 w.heap.size 79 #[.bool false,.int .i64 0,.int .i64 0,.slice none 0 0]:=(hr3.2.1 _ PL.lt ae).trans PL;obtain⟨hcx3,-,hzx3⟩:=af.aK Wk;have Wl:=aa Wk;have Wm:=aa aaE;clear hr3 Wk aaE aT kB hzx eO hfz hzz;go_wp2_with(at_builtin;refine cj _ rfl _ _ 40 rfl (w1.heap.size+1) 110 3 24 (.agg #[.int .i64 0,.int .i64 0,.int .i64 0]) bk eZ sG underlying40 Rl rfl ah _ M rfl ?q1 (some ⟨w3.heap.size,0,none⟩) 1 1 [(z%256,z/256%65536,z/4294967296)] rfl rfl ?q2 ?c4 ?c5 ?c6 ?_)
    case q1=>exact iP.ag (ak (aj w3) _)
    case q2=>exact Rd.lit w3 (bk (z%256,z/256%65536,z/4294967296)) _
    case c4=>simp;omega
    case c5=>simp;omega
    case c6=>simp;omega
    intro v' w4 hown' hgrow _;have hrow:∀b,(Value.slice B2 bl d2).ownBlock=some b->w.heap.size<=b:=fun b hb=>by have:=AX b hb;omega
    have jY:=aa ((fx.more qR (ak (aj w3) (.cells #[.int .i64 (z%256),.int .i64 (z/256%65536),.int .i64 (z/4294967296)] 110))).grow hg0 qR hgrow hrow);have Wn:=(Wl.alloc (.cells #[.int .i64 (z%256),.int .i64 (z/256%65536),.int .i64 (z/4294967296)] 110)).grown hgrow (fun e=>by have:=AX _ e.symm;omega);have aaF:=(Wm.alloc (.cells #[.int .i64 (z%256),.int .i64 (z/256%65536),.int .i64 (z/4294967296)] 110)).grown hgrow (fun e=>by have:=AX _ e.symm;omega);obtain⟨B4,d4,hv4,_⟩:=hown'.rd;obtain⟨YY,hbl4⟩:=aD ((M++[(z%256,z/256%65536,z/4294967296)]).length);rw[<-hbl4]at hv4;subst hv4;obtain⟨hcx4,hfx4,hzx4⟩:=af.aK Wn;have Wo:=Wn.bb 3 (.slice B4 YY d4);have hz5:af (w4.setCell ⟨w1.heap.size,3,none⟩ (.slice B4 YY d4)) w.heap.size 79 #[.bool false,.int .i64 0,.int .i64 0,.slice none 0 0]:=aaF.far (p:=⟨w1.heap.size,3,none⟩) (by show w.heap.size≠w1.heap.size;omega) _;have Dq:aI (w4.setCell ⟨w1.heap.size,3,none⟩ (.slice B4 YY d4)) (w1.heap.size+1) 110 3 bk (.slice B4 YY d4) (M++[(z%256,z/256%65536,z/4294967296)]):=cG hown' (p:=⟨w1.heap.size,3,none⟩) (fun b hb=>by have:=(aX hown' hb).1;show b≠w1.heap.size;omega) _;have sZ:=aa Wo;have Cc:=aa hz5;have rL:=aa Dq;have jd:=aa (jY.set hg0 qR (p:=⟨w1.heap.size,3,none⟩) (by show _<=w1.heap.size;omega) (.slice B4 YY d4));clear hown' hgrow Wn aaF Wo hz5 Dq hcx3 hzx3 hbl4;go_wp2_with fail;go_roundw;case rel=>exact⟨k+1,.slice B4 YY d4,ae,by go_num,by rw[uC.out];exact rL.out,sZ,Cc,jd⟩
    case measure=>simp[intOf];omega
   ·have d1:decide ((k:Int)<m)=false:=bJ I6;rw[ai I6,List.append_nil]at uB;have uC:=aa uB;clear I6 uB;go_wp2_with fail;refine HX.mono ?_;rintro e w3 ⟨rfl,hr3⟩;have fx:=aa (HR.trans hr3);have iP:Hid (aI w3 (w1.heap.size+1) 110 3 bk (.slice B2 bl d2) M):=fj HO (fun b hb=>hr3.2.1 b (aX HO hb).2 (by have:=AX b hb;omega));have Wl:Hid (af w3 w1.heap.size 79 #[.bool (x%2==1),.int .i64 (x/4294967296),.int .i64 (x/16%1048576),.slice B2 bl d2]):=(hr3.2.1 _ HKX.lt ae).trans HKX;have Wm:Hid (af w3 w.heap.size 79 #[.bool false,.int .i64 0,.int .i64 0,.slice none 0 0]):=(hr3.2.1 _ PL.lt ae).trans PL;clear hr3;go_wp2_with fail;go_roundw;case rel=>exact⟨k+1,.slice B2 bl d2,ae,by go_num,by rw[uC.out];exact iP.out,Wl,Wm,fx⟩
    case measure=>simp[intOf];omega
  ·have qp:k=3:=ae;subst qp;rw[show((3:Nat):Int)=3 from rfl];go_wp2_with fail;have Bl:=aaC PL (.bool (x%2==1)) (.int .i64 (x/4294967296)) (.int .i64 (x/16%1048576)) (.slice B2 bl d2);have Wj:dK w S g ((l.drop 1).drop 3) ((((wr.setCell ⟨w.heap.size,0,none⟩ (.bool (x%2==1))).setCell ⟨w.heap.size,1,none⟩ (.int .i64 (x/4294967296))).setCell ⟨w.heap.size,2,none⟩ (.int .i64 (x/16%1048576))).setCell ⟨w.heap.size,3,none⟩ (.slice B2 bl d2)):=((((HR.set hg0 qR (p:=⟨w.heap.size,0,none⟩) (aS _) _).set hg0 qR (p:=⟨w.heap.size,1,none⟩) (aS _) _).set hg0 qR (p:=⟨w.heap.size,2,none⟩) (aS _) _).set hg0 qR (p:=⟨w.heap.size,3,none⟩) (aS _) _)
   have Uf:aI ((((wr.setCell ⟨w.heap.size,0,none⟩ (.bool (x%2==1))).setCell ⟨w.heap.size,1,none⟩ (.int .i64 (x/4294967296))).setCell ⟨w.heap.size,2,none⟩ (.int .i64 (x/16%1048576))).setCell ⟨w.heap.size,3,none⟩ (.slice B2 bl d2)) (w1.heap.size+1) 110 3 bk (.slice B2 bl d2) (jw (l.drop 1) m 3):=(cG (cG (cG (cG HO (p:=⟨w.heap.size,0,none⟩) (fun b hb=>by have:=AX b hb;show b≠w.heap.size;omega) _) (p:=⟨w.heap.size,1,none⟩) (fun b hb=>by have:=AX b hb;show b≠w.heap.size;omega) _) (p:=⟨w.heap.size,2,none⟩) (fun b hb=>by have:=AX b hb;show b≠w.heap.size;omega) _) (p:=⟨w.heap.size,3,none⟩) (fun b hb=>by have:=AX b hb;show b≠w.heap.size;omega) _)
   generalize((((wr.setCell ⟨w.heap.size,0,none⟩ (.bool (x%2==1))).setCell ⟨w.heap.size,1,none⟩ (.int .i64 (x/4294967296))).setCell ⟨w.heap.size,2,none⟩ (.int .i64 (x/16%1048576))).setCell ⟨w.heap.size,3,none⟩ (.slice B2 bl d2))=wf at Bl Wj Uf ⊢;have l7:=fun i=>af.cell Bl i;refine bodyPost_ret (v:=.agg #[.bool (x%2==1),.int .i64 (x/4294967296),.int .i64 (x/16%1048576),.slice B2 bl d2]) ?_ rfl ?_
   ·simp[results,results260,go_sem,l7]
   ·obtain⟨cs,hcs⟩:=aD (jw (l.drop 1) m 3);have hb2:=kt.out;rw[<-hcs]at Uf hb2 ⊢;obtain⟨B3,d3,hv3,aae⟩:=Uf.rd;injection hv3 with q1 q2 q3
    subst q1 q3;refine⟨B2,d2,?_,?_,⟨aae,?_⟩,?_⟩
    ·rw[<-hb2]
    ·rw[<-hb2];exact rK
    ·exact aaB
    ·rw[List.drop_drop]at Wj;exact Wj
end
section
variable(w:World)
theorem yR(A B:Option Addr)(c d:Nat)(xs ys:List Int)(hl:xs.length<=100000)(hl':ys.length<=100000)(ha:bC w .u64 A xs)(hb:bC w .u64 B ys) :
 Calls prog 262 #[.slice A xs.length c,.slice B ys.length d] w fun e w'=>e=.returned (decide (xs=ys))/\iH w w':=by
 obtain⟨n,hn⟩:=aD xs.length
 obtain⟨m,hm⟩:=aD ys.length
 rw[<-hn]at hl ⊢
 rw[<-hm]at hl' ⊢
 have HN:=aa hn;have HM:=aa hm;have HA:=aa ha;have HB:=aa hb
 clear hn hm ha hb
 by_cases YG:n=m
 case neg =>
  have d1:((n:Int) !=(m:Int))=true:=by simp;omega
  have HF:Hid (decide (xs=ys)=false):=bJ (by rintro rfl;exact YG (HN.trans HM.symm));rw[HF.out];clear YG;go_enter func262,ntmps262;go_wp2_with fail;go_ret;exact⟨rfl,iH.refl w⟩
 subst YG
 have d1:((n:Int) !=(n:Int))=false:=aF
 go_enter func262,ntmps262
 go_wp2_with fail
 go_loopw[5,13] (fun _ i wr=>∃k:Nat,k<=n/\i=k/\Hid (iH w wr)/\Hid (∀(j:Nat) (x y:Int),j<k->xs[j]?=some x->ys[j]?=some y->x=y)) (fun _ i _=>n-(intOf i).toNat)
 case atStart=>exact⟨0,aY _,rfl,iH.refl w,fun j _ _ h=>absurd h (Nat.not_lt_zero _)⟩
 case round =>
  obtain⟨k,hk,rfl,HD,HX⟩:=hrel;by_cases hlt:k<n
  ·obtain⟨ad,x,hA,hx,cx⟩:=bC.at_ (HA.drew HD) (i:=k) (by rw[<-HN.out];exact hlt);obtain⟨bd,y,hB,hy,cy⟩:=bC.at_ (HB.drew HD) (i:=k) (by rw[<-HM.out];exact hlt);subst hA;subst hB;have HXX:=aa hx;have HYY:=aa hy;clear hx hy;have kS:(0:Int)<=(k:Int):=ae;have qp:(k:Int)<(n:Int):=ae;by_cases fM:x=y
   ·have d2:(x !=y)=false:=by simpa using fM
    have HE:=aa fM;clear fM;go_wp2_with fail;go_quiet(fail);go_wp2_with fail;go_roundw;case rel=>exact⟨k+1,ae,by go_num,HD.more _,fun j a b hj h1 h2=>by
     by_cases e:j=k
     ·subst e;have q1:=HXX.out;have q2:=HYY.out;rw[h1]at q1;rw[h2]at q2;injection q1 with q1;injection q2 with q2
      rw[q1,q2];exact HE.out
     ·exact HX.out j a b ae h1 h2⟩
    case measure=>simp[intOf];omega
   ·have d2:(x !=y)=true:=by simpa using fM
    have HF:Hid (decide (xs=ys)=false):=bJ (by rintro rfl;have q1:=HXX.out;rw[HYY.out]at q1;injection q1 with q1;exact fM q1.symm);clear fM;go_wp2_with fail;go_quiet(fail);go_wp2_with fail;go_ret;rw[HF.out];exact⟨rfl,HD.more _⟩
  ·go_wp2_with fail;go_ret;rw[dg (Bf HN.out HM.out hlt HX.out)];exact⟨rfl,HD⟩
end
attribute [local go_sem ↓] Go.wp_at_zero Go.wp_at_succ
theorem size_le(hc:Mo.aN c=true):0<=Mo.aZ c/\Mo.aZ c<=1064:=by have:=rH hc;obtain⟨ht,_⟩:=aG hc;unfold Mo.aZ;rw[hc];simp only[Bool.true_eq_false,if_false];omega
theorem GN{a b A B:Int}(h0:0<=a)(h1:a<=A)(k0:0<=b)(k1:b<=B):0<=a*b/\a*b<=A*B:=⟨gO h0 k0,Int.le_trans (Int.mul_le_mul_of_nonneg_right h1 k0) (Int.mul_le_mul_of_nonneg_left k1 ae)⟩
def iC(c:Mo.bH)(s:Int):Int:=if s=4 then 3 else if s=5 then 3+c.threads else if s=6 then 3+c.threads*6 else if s=7 then 3+c.threads*7 else if s=8 then 3+c.threads*8 else 3+c.threads*9
theorem kU(hc:Mo.aN c=true)(s:Int):0<=iC c s/\iC c s<=1000:=by
 obtain⟨ht,_⟩:=aG hc;unfold iC;split; · omega
 split; · omega
 split; · omega
 split; · omega
 split<;>omega
section
variable(w:World)
theorem jP(hc:Mo.aN c=true)(A:Option Addr)(k n:Nat)(s:Int)(hs:s=4\/s=5\/s=6\/s=7\/s=8\/s=9) :
 Calls prog 142 #[.agg #[c.kind,c.threads,c.chans,c.cap,c.nodes,c.aJ,c.aB,c.tags,c.bn,c.ba,.slice A n k],s] w fun e w'=>e=.returned (iC c s)/\Below w w w':=by
 obtain⟨ht,_⟩:=aG hc
 have e1:IntKind.i64.wrap (3+c.threads)=3+c.threads:=bK _ ae
 have e6:IntKind.i64.wrap (c.threads*6)=c.threads*6:=bK _ ae
 have e7:IntKind.i64.wrap (c.threads*7)=c.threads*7:=bK _ ae
 have e8:IntKind.i64.wrap (c.threads*8)=c.threads*8:=bK _ ae
 have e9:IntKind.i64.wrap (c.threads*9)=c.threads*9:=bK _ ae
 have f6:IntKind.i64.wrap (3+c.threads*6)=3+c.threads*6:=bK _ ae
 have f7:IntKind.i64.wrap (3+c.threads*7)=3+c.threads*7:=bK _ ae
 have f8:IntKind.i64.wrap (3+c.threads*8)=3+c.threads*8:=bK _ ae
 have f9:IntKind.i64.wrap (3+c.threads*9)=3+c.threads*9:=bK _ ae
 clear hc ht
 rcases hs with rfl|rfl|rfl|rfl|rfl|rfl
 all_goals
  go_enter func142,ntmps142;go_wp2_with fail;go_ret;exact⟨rfl,ak (aj w) _⟩
theorem wF(hc:Mo.aN c=true)(A:Option Addr)(k n:Nat)(t:Int)(h0:0<=t)(h1:t<=100) :
 Calls prog 161 #[.agg #[c.kind,c.threads,c.chans,c.cap,c.nodes,c.aJ,c.aB,c.tags,c.bn,c.ba,.slice A n k],t] w fun e w'=>e=.returned (Mo.lN c t)/\Below w w w':=by
 have HF:=aa (jP (w.alloc (cr c A n k)) hc A k n 4 ah)
 have hle:=kU hc 4
 have HV:Hid (Mo.lN c t=iC c 4+t):=by unfold Hid;rfl
 rw[HV.out]
 obtain⟨f,hf⟩:=aD (iC c 4)
 rw[<-hf]at HF hle ⊢
 have e0:IntKind.i64.wrap (t*5)=t*5:=bK _ ae
 have e1:IntKind.i64.wrap (f+t)=f+t:=bK _ ae
 clear hf HV hc hle
 go_enter func161,ntmps161
 exact mk9
theorem yS(hc:Mo.aN c=true)(A:Option Addr)(k n:Nat)(t:Int)(h0:0<=t)(h1:t<=100) :
 Calls prog 163 #[.agg #[c.kind,c.threads,c.chans,c.cap,c.nodes,c.aJ,c.aB,c.tags,c.bn,c.ba,.slice A n k],t] w fun e w'=>e=.returned (Mo.iK c t)/\Below w w w':=by
 have HF:=aa (jP (w.alloc (cr c A n k)) hc A k n 5 ah)
 have hle:=kU hc 5
 have HV:Hid (Mo.iK c t=iC c 5+t*5):=by unfold Hid;rfl
 rw[HV.out]
 obtain⟨f,hf⟩:=aD (iC c 5)
 rw[<-hf]at HF hle ⊢
 have e0:IntKind.i64.wrap (t*5)=t*5:=bK _ ae
 have e1:IntKind.i64.wrap (f+t*5)=f+t*5:=bK _ ae
 clear hf HV hc hle
 go_enter func163,ntmps163
 exact mk9
theorem oY(hc:Mo.aN c=true)(A:Option Addr)(k n:Nat)(t:Int)(h0:0<=t)(h1:t<=100) :
 Calls prog 155 #[.agg #[c.kind,c.threads,c.chans,c.cap,c.nodes,c.aJ,c.aB,c.tags,c.bn,c.ba,.slice A n k],t] w fun e w'=>e=.returned (Mo.gZ c t)/\Below w w w':=by
 have HF:=aa (jP (w.alloc (cr c A n k)) hc A k n 6 ah)
 have hle:=kU hc 6
 have HV:Hid (Mo.gZ c t=iC c 6+t):=by unfold Hid;rfl
 rw[HV.out]
 obtain⟨f,hf⟩:=aD (iC c 6)
 rw[<-hf]at HF hle ⊢
 have e0:IntKind.i64.wrap (t*5)=t*5:=bK _ ae
 have e1:IntKind.i64.wrap (f+t)=f+t:=bK _ ae
 clear hf HV hc hle
 go_enter func155,ntmps155
 exact mk9
theorem rM(hc:Mo.aN c=true)(A:Option Addr)(k n:Nat)(t:Int)(h0:0<=t)(h1:t<=100) :
 Calls prog 151 #[.agg #[c.kind,c.threads,c.chans,c.cap,c.nodes,c.aJ,c.aB,c.tags,c.bn,c.ba,.slice A n k],t] w fun e w'=>e=.returned (Mo.ou c t)/\Below w w w':=by
 have HF:=aa (jP (w.alloc (cr c A n k)) hc A k n 7 ah)
 have hle:=kU hc 7
 have HV:Hid (Mo.ou c t=iC c 7+t):=by unfold Hid;rfl
 rw[HV.out]
 obtain⟨f,hf⟩:=aD (iC c 7)
 rw[<-hf]at HF hle ⊢
 have e0:IntKind.i64.wrap (t*5)=t*5:=bK _ ae
 have e1:IntKind.i64.wrap (f+t)=f+t:=bK _ ae
 clear hf HV hc hle
 go_enter func151,ntmps151
 exact mk9
theorem je(hc:Mo.aN c=true)(A:Option Addr)(k n:Nat)(t:Int)(h0:0<=t)(h1:t<=100) :
 Calls prog 167 #[.agg #[c.kind,c.threads,c.chans,c.cap,c.nodes,c.aJ,c.aB,c.tags,c.bn,c.ba,.slice A n k],t] w fun e w'=>e=.returned (Mo.cn c t)/\Below w w w':=by
 have HF:=aa (jP (w.alloc (cr c A n k)) hc A k n 8 ah)
 have hle:=kU hc 8
 have HV:Hid (Mo.cn c t=iC c 8+t):=by unfold Hid;rfl
 rw[HV.out]
 obtain⟨f,hf⟩:=aD (iC c 8)
 rw[<-hf]at HF hle ⊢
 have e0:IntKind.i64.wrap (t*5)=t*5:=bK _ ae
 have e1:IntKind.i64.wrap (f+t)=f+t:=bK _ ae
 clear hf HV hc hle
 go_enter func167,ntmps167
 exact mk9
theorem na(hc:Mo.aN c=true):Mo.bI c=1+c.threads*c.nodes/\1<=Mo.bI c/\Mo.bI c<=4097:=by
 obtain⟨ht,hn,_⟩:=aG hc;have:=GN (a:=c.threads) (b:=c.nodes) (A:=64) (B:=64) ae ht.2 ae hn.2;have hv:Mo.bI c=1+c.threads*c.nodes:=by unfold Mo.bI;rw[hc];rfl
 rw[hv];exact⟨rfl,ae,ae⟩
theorem I9(hc:Mo.aN c=true)(hn:n=c.start.length)(hr:bC w .i64 A c.start) :
 Calls prog 140 #[.agg #[c.kind,c.threads,c.chans,c.cap,c.nodes,c.aJ,c.aB,c.tags,c.bn,c.ba,.slice A n k]] w fun e w'=>e=.returned (Mo.bI c)/\Below w w w':=by
 have HC:=aa (fG (w.alloc (cr c A n k)) hc hn (hr.alloc _) (k:=k))
 obtain⟨hv,h1,h2⟩:=na hc
 rw[hv]at h1 h2 ⊢
 have e1:IntKind.i64.wrap (c.threads*c.nodes)=c.threads*c.nodes:=bK _ ae
 have e2:IntKind.i64.wrap (1+c.threads*c.nodes)=1+c.threads*c.nodes:=bK _ ae
 clear hv h1 h2 hn hr hc
 go_enter func140,ntmps140
 go_wp2_with fail
 refine HC.mono ?_
 rintro e w1 ⟨rfl,hb⟩
 have hc:∀i,w1.cell? ⟨w.heap.size,i,none⟩=_:=fun i=>hb.cell (p:=⟨w.heap.size,i,none⟩) aF
 have HB:=aa (ag (ak (aj w) (cr c A n k)) hb)
 clear hb
 go_wp2_with fail
 go_ret
 exact⟨rfl,HB⟩
theorem kn(hc:Mo.aN c=true){i:Int}(h0:0<=i)(h1:i<=70000):0<=i*(1+Mo.aZ c)/\i*(1+Mo.aZ c)<=74550000:=by have hz:=size_le hc;exact GN (a:=i) (b:=1+Mo.aZ c) (A:=70000) (B:=1065) h0 h1 ae ae
theorem o7(hc:Mo.aN c=true)(hn:n=c.start.length)(hr:bC w .i64 A c.start)(i:Int)(h0:0<=i)(h1:i<=70000) :
 Calls prog 104 #[.agg #[c.kind,c.threads,c.chans,c.cap,c.nodes,c.aJ,c.aB,c.tags,c.bn,c.ba,.slice A n k],i] w fun e w'=>e=.returned (Mo.bA c i)/\Below w w w':=by
 have HF:=aa (jP (w.alloc (cr c A n k)) hc A k n 9 ah)
 have hle:=kU hc 9
 have Lq:=kn hc h0 h1
 have hz:=size_le hc
 have HS:=aa (fun w' (hb:Below w w w')=>vY w' hc hn (hr.below hb) (k:=k))
 have HV:Hid (Mo.bA c i=iC c 9+i*(1+Mo.aZ c)):=by unfold Hid;rfl
 rw[HV.out]
 obtain⟨f,hf⟩:=aD (iC c 9)
 obtain⟨s,hs⟩:=aD (Mo.aZ c)
 rw[<-hf]at HF hle ⊢
 rw[<-hs]at HS Lq hz ⊢
 have e1:IntKind.i64.wrap (1+s)=1+s:=bK _ ae
 have e2:IntKind.i64.wrap (i*(1+s))=i*(1+s):=bK _ ae
 have e3:IntKind.i64.wrap (f+i*(1+s))=f+i*(1+s):=bK _ ae
 have hf':=hf;have hc':=hc
 clear hf hs HV hc hle Lq hz hn hr h0 h1
 have hs0:(w.alloc (cr c A n k)).cell? ⟨w.heap.size,0,none⟩=some c.kind/\(w.alloc (cr c A n k)).cell? ⟨w.heap.size,1,none⟩=some c.threads/\(w.alloc (cr c A n k)).cell? ⟨w.heap.size,2,none⟩=some c.chans/\(w.alloc (cr c A n k)).cell? ⟨w.heap.size,3,none⟩=some c.cap/\(w.alloc (cr c A n k)).cell? ⟨w.heap.size,4,none⟩=some c.nodes/\(w.alloc (cr c A n k)).cell? ⟨w.heap.size,5,none⟩=some c.aJ/\(w.alloc (cr c A n k)).cell? ⟨w.heap.size,6,none⟩=some c.aB/\(w.alloc (cr c A n k)).cell? ⟨w.heap.size,7,none⟩=some c.tags/\(w.alloc (cr c A n k)).cell? ⟨w.heap.size,8,none⟩=some c.bn/\(w.alloc (cr c A n k)).cell? ⟨w.heap.size,9,none⟩=some c.ba/\(w.alloc (cr c A n k)).cell? ⟨w.heap.size,10,none⟩=some (.slice A n k):=aF
 have KB:∀w1 w2:World,w.heap.size<w1.heap.size->Below w1 w1 w2->(w1.cell? ⟨w.heap.size,0,none⟩=some c.kind/\w1.cell? ⟨w.heap.size,1,none⟩=some c.threads/\w1.cell? ⟨w.heap.size,2,none⟩=some c.chans/\w1.cell? ⟨w.heap.size,3,none⟩=some c.cap/\w1.cell? ⟨w.heap.size,4,none⟩=some c.nodes/\w1.cell? ⟨w.heap.size,5,none⟩=some c.aJ/\w1.cell? ⟨w.heap.size,6,none⟩=some c.aB/\w1.cell? ⟨w.heap.size,7,none⟩=some c.tags/\w1.cell? ⟨w.heap.size,8,none⟩=some c.bn/\w1.cell? ⟨w.heap.size,9,none⟩=some c.ba/\w1.cell? ⟨w.heap.size,10,none⟩=some (.slice A n k))->(w2.cell? ⟨w.heap.size,0,none⟩=some c.kind/\w2.cell? ⟨w.heap.size,1,none⟩=some c.threads/\w2.cell? ⟨w.heap.size,2,none⟩=some c.chans/\w2.cell? ⟨w.heap.size,3,none⟩=some c.cap/\w2.cell? ⟨w.heap.size,4,none⟩=some c.nodes/\w2.cell? ⟨w.heap.size,5,none⟩=some c.aJ/\w2.cell? ⟨w.heap.size,6,none⟩=some c.aB/\w2.cell? ⟨w.heap.size,7,none⟩=some c.tags/\w2.cell? ⟨w.heap.size,8,none⟩=some c.bn/\w2.cell? ⟨w.heap.size,9,none⟩=some c.ba/\w2.cell? ⟨w.heap.size,10,none⟩=some (.slice A n k)):=by exact Ug
 have MF:=aa KB
 have hw0:Below w w (w.alloc (cr c A n k)):=ak (aj w) _
 have lR:w.heap.size<(w.alloc (cr c A n k)).heap.size:=aF
 have xB:Below (w.alloc (cr c A n k)).heap.size (w.alloc (cr c A n k)) (w.alloc (cr c A n k)).drew:=bO (n:=1) (aj _)
 have hs1:=MF.out _ _ lR xB hs0
 have HF':=aa (jP (w.alloc (cr c A n k)).drew hc' A k n 9 ah)
 rw[<-hf']at HF'
 clear KB HF hc' hf'
 go_enter func104,ntmps104
 go_wp2_with fail
 go_region_held3(fun w'=>w'.cell? ⟨w.heap.size,0,none⟩=some c.kind/\w'.cell? ⟨w.heap.size,1,none⟩=some c.threads/\w'.cell? ⟨w.heap.size,2,none⟩=some c.chans/\w'.cell? ⟨w.heap.size,3,none⟩=some c.cap/\w'.cell? ⟨w.heap.size,4,none⟩=some c.nodes/\w'.cell? ⟨w.heap.size,5,none⟩=some c.aJ/\w'.cell? ⟨w.heap.size,6,none⟩=some c.aB/\w'.cell? ⟨w.heap.size,7,none⟩=some c.tags/\w'.cell? ⟨w.heap.size,8,none⟩=some c.bn/\w'.cell? ⟨w.heap.size,9,none⟩=some c.ba/\w'.cell? ⟨w.heap.size,10,none⟩=some (.slice A n k)) (first|assumption|go_keep)
  (first
  |(go_at_call 142;refine HF'.mono ?_;rintro e w1 ⟨rfl,hb1⟩
    have bN:=ag hw0 (ag xB hb1)
    have hzA:w.heap.size<w1.heap.size:=by have:=bN.size;have:=hb1.size;simp at this;omega
    have YR:=MF.out _ _ aF hb1 hs1)
  |(go_at_call 143;refine(HS w1 bN).mono ?_;rintro e w2 ⟨rfl,hb2⟩
    have dE:=ag bN hb2
    have hsB:=MF.out _ _ hzA hb2 YR))
 have bq:=aa dE
 clear hs0 hs1 YR hsB bN dE hb1 hb2
 go_wp2_with fail
 go_ret
 exact⟨rfl,bq⟩
theorem tq(hc:Mo.aN c=true)(hn:n=c.start.length)(hr:bC w .i64 A c.start) :
 Calls prog 101 #[.agg #[c.kind,c.threads,c.chans,c.cap,c.nodes,c.aJ,c.aB,c.tags,c.bn,c.ba,.slice A n k]] w fun e w'=>e=.returned (Mo.bo c)/\Below w w w':=by
 have HC:=aa (fG (w.alloc (cr c A n k)) hc hn (hr.alloc _) (k:=k))
 have HN:=aa (fun w' (hb:Below w w w')=>I9 w' hc hn (hr.below hb) (k:=k))
 have hle:=na hc
 have HA:=aa (fun w' (hb:Below w w w')=>o7 w' hc hn (hr.below hb) (k:=k) (Mo.bI c) ae ae)
 have HV:Hid (Mo.bo c=Mo.bA c (Mo.bI c)):=by unfold Hid Mo.bo;rw[hc];rfl
 rw[HV.out]
 obtain⟨v,hv⟩:=aD (Mo.bA c (Mo.bI c))
 obtain⟨u,hu⟩:=aD (Mo.bI c)
 rw[<-hv]at HA ⊢
 rw[<-hu]at HA HN
 clear HV hv hu hn hr hle hc
 have hs0:(w.alloc (cr c A n k)).cell? ⟨w.heap.size,0,none⟩=some c.kind/\(w.alloc (cr c A n k)).cell? ⟨w.heap.size,1,none⟩=some c.threads/\(w.alloc (cr c A n k)).cell? ⟨w.heap.size,2,none⟩=some c.chans/\(w.alloc (cr c A n k)).cell? ⟨w.heap.size,3,none⟩=some c.cap/\(w.alloc (cr c A n k)).cell? ⟨w.heap.size,4,none⟩=some c.nodes/\(w.alloc (cr c A n k)).cell? ⟨w.heap.size,5,none⟩=some c.aJ/\(w.alloc (cr c A n k)).cell? ⟨w.heap.size,6,none⟩=some c.aB/\(w.alloc (cr c A n k)).cell? ⟨w.heap.size,7,none⟩=some c.tags/\(w.alloc (cr c A n k)).cell? ⟨w.heap.size,8,none⟩=some c.bn/\(w.alloc (cr c A n k)).cell? ⟨w.heap.size,9,none⟩=some c.ba/\(w.alloc (cr c A n k)).cell? ⟨w.heap.size,10,none⟩=some (.slice A n k):=aF
 have KB:∀w1 w2:World,w.heap.size<w1.heap.size->Below w1 w1 w2->(w1.cell? ⟨w.heap.size,0,none⟩=some c.kind/\w1.cell? ⟨w.heap.size,1,none⟩=some c.threads/\w1.cell? ⟨w.heap.size,2,none⟩=some c.chans/\w1.cell? ⟨w.heap.size,3,none⟩=some c.cap/\w1.cell? ⟨w.heap.size,4,none⟩=some c.nodes/\w1.cell? ⟨w.heap.size,5,none⟩=some c.aJ/\w1.cell? ⟨w.heap.size,6,none⟩=some c.aB/\w1.cell? ⟨w.heap.size,7,none⟩=some c.tags/\w1.cell? ⟨w.heap.size,8,none⟩=some c.bn/\w1.cell? ⟨w.heap.size,9,none⟩=some c.ba/\w1.cell? ⟨w.heap.size,10,none⟩=some (.slice A n k))->(w2.cell? ⟨w.heap.size,0,none⟩=some c.kind/\w2.cell? ⟨w.heap.size,1,none⟩=some c.threads/\w2.cell? ⟨w.heap.size,2,none⟩=some c.chans/\w2.cell? ⟨w.heap.size,3,none⟩=some c.cap/\w2.cell? ⟨w.heap.size,4,none⟩=some c.nodes/\w2.cell? ⟨w.heap.size,5,none⟩=some c.aJ/\w2.cell? ⟨w.heap.size,6,none⟩=some c.aB/\w2.cell? ⟨w.heap.size,7,none⟩=some c.tags/\w2.cell? ⟨w.heap.size,8,none⟩=some c.bn/\w2.cell? ⟨w.heap.size,9,none⟩=some c.ba/\w2.cell? ⟨w.heap.size,10,none⟩=some (.slice A n k)):=by exact Ug
 have MF:=aa KB
 have HS0:=aa hs0
 have hw0:Below w w (w.alloc (cr c A n k)):=ak (aj w) _
 have lR:w.heap.size<(w.alloc (cr c A n k)).heap.size:=aF
 have aaG:=aa lR
 clear KB hs0 lR
 go_enter func101,ntmps101
 go_wp2_with fail
 refine HC.mono ?_
 rintro e w1 ⟨rfl,hb⟩
 have hc:∀i,w1.cell? ⟨w.heap.size,i,none⟩=_:=fun i=>hb.cell (p:=⟨w.heap.size,i,none⟩) aF
 have ma:=ag hw0 hb
 have hz1:w.heap.size<w1.heap.size:=by have:=hb.size;have:=aaG.out;omega
 have Gw:Below w1 w1 w1.drew:=bO (n:=1) (aj _)
 have hs1:=MF.out _ _ hz1 Gw (MF _ _ aaG hb HS0)
 have qO:=ag ma Gw
 have hz2:w.heap.size<w1.drew.heap.size:=by have:=Gw.size;omega
 have HN':=aa (HN w1.drew qO)
 clear hb HC HN HS0
 go_wp2_with fail
 go_region_held3(fun w'=>w'.cell? ⟨w.heap.size,0,none⟩=some c.kind/\w'.cell? ⟨w.heap.size,1,none⟩=some c.threads/\w'.cell? ⟨w.heap.size,2,none⟩=some c.chans/\w'.cell? ⟨w.heap.size,3,none⟩=some c.cap/\w'.cell? ⟨w.heap.size,4,none⟩=some c.nodes/\w'.cell? ⟨w.heap.size,5,none⟩=some c.aJ/\w'.cell? ⟨w.heap.size,6,none⟩=some c.aB/\w'.cell? ⟨w.heap.size,7,none⟩=some c.tags/\w'.cell? ⟨w.heap.size,8,none⟩=some c.bn/\w'.cell? ⟨w.heap.size,9,none⟩=some c.ba/\w'.cell? ⟨w.heap.size,10,none⟩=some (.slice A n k)) (first|assumption|go_keep)
  (first
  |(go_at_call 140;refine HN'.mono ?_;rintro e w2 ⟨rfl,hb2⟩
    have bN:=ag qO hb2
    have hzA:w.heap.size<w2.heap.size:=by have:=hb2.size;omega
    have YR:=MF.out _ _ hz2 hb2 hs1)
  |(go_at_call 104;refine(HA w2 bN).mono ?_;rintro e w3 ⟨rfl,hb3⟩
    have dE:=ag bN hb3
    have hsB:=MF.out _ _ hzA hb3 YR))
 have bq:=aa dE
 clear hs1 YR hsB bN dE hb2 hb3
 go_wp2_with fail
 go_ret
 exact⟨rfl,bq⟩
end
def mz(start:Int)(n:Nat):List Mo.Rf:=(List.range n).map fun(i:Nat)=>⟨start+i,0⟩
theorem Ce(start:Int)(n:Nat):mz start (n+1)=mz start n++[⟨start+n,0⟩]:=by unfold mz;rw[List.range_succ,List.map_append];rfl
theorem nT(start:Int)(n:Nat):(mz start n).length=n:=by simp[mz]
section
variable(w:World)
theorem MJ(start n:Int)(h0:0<=n)(h1:n<=64)(hs:0<=start)(hs1:start<=1000000) :
 Calls prog 148 #[start,n] w fun e w'=>∃v,e=.returned v/\ux (Mo.uq start n) w v w':=by
 have a0:¬n<0:=ae
 have a1:¬64<n:=ae
 have HN:Hid (Mo.uq start n=⟨⟨0,0⟩,mz start n.toNat,[],0⟩):=by unfold Hid Mo.uq Mo.oK mz;rw[show(min (max n 0) 64).toNat=n.toNat by omega]
 rw[HN.out]
 clear HN
 unfold ux kJ
 dsimp only
 obtain⟨N,rfl⟩:∃N:Nat,n=(N:Int):=⟨n.toNat,ae⟩
 rw[fF]
 have fI:Below w w ((w.alloc tO).alloc tO):=ak (ak (aj w) _) _
 have rE:af ((w.alloc tO).alloc tO) w.heap.size 39 _:=(af.new _ _ _).alloc _
 have YK:af ((w.alloc tO).alloc tO) (w.heap.size+1) 39 _:=af.newAt _ _ _ aF
 have bG:=aa fI;have kK:=aa rE;have HP0:=aa YK
 clear fI rE YK
 go_enter func148,ntmps148
 go_wp2_with fail
 go_loopw[10] (fun i wr=>∃(j:Nat) (A:Option Addr) (c:Nat),j<=N/\i=j/\Hid (aI wr w.heap.size 200 2 eL (.slice A j c) (mz start j))/\Hid (Below w w wr)/\Hid (af wr w.heap.size 39 #[oZ,oZ,oN,oN,oZ])/\Hid (af wr (w.heap.size+1) 39 #[oZ,oZ,.slice A j c,oN,oZ])) (fun i _=>N-(intOf i).toNat)
 case atStart=>exact⟨0,none,0,aY _,rfl,aI.nil _ _ _ _ _,bG,kK,HP0⟩
 case round =>
  obtain⟨j,A,c,hj,rfl,HO,HB,HQ,HP⟩:=hrel;obtain⟨aA,bh,aU⟩:=af.aK HP;by_cases hlt:j<N
  ·have e1:IntKind.i64.wrap (start+(j:Int))=start+j:=bK _ ae;go_wp2_with(at_builtin;refine cj _ rfl _ _ 36 rfl w.heap.size 200 2 16 (.agg #[oZ,oZ]) eL mZ sV underlying36 qz rfl ah _ (mz start j) rfl (HO.alloc _) wr.heap.size 1 1 [⟨start+j,0⟩] rfl rfl ?c4 ?c5 ?c6 ?c7 ?_)
   case c4=>exact Rd.lit wr (eL ⟨start+j,0⟩) _
   case c5=>rw[nT];simp;omega
   case c6=>rw[nT];simp;omega
   case c7=>have:=HB.size;simp;omega
   intro v4 w4 bX bg hzz;clear hzz;rw[<-Ce]at bX;obtain⟨A4,c4,hv4⟩:=bX.shape;rw[nT]at hv4;subst hv4;have hsz:=HB.size;have mA:=HO.alloc (.cells #[.int .i64 (start+j),oZ] 200);have ED:=HP.alloc (.cells #[.int .i64 (start+j),oZ] 200);have rN:=HQ.alloc (.cells #[.int .i64 (start+j),oZ] 200);have GP:=ED.grown bg (aV mA ED ah);have tu:=rN.grown bg (aV mA rN ah);have hb4:=aI.br mA (ak HB (.cells #[.int .i64 (start+j),oZ] 200)) bg (by simp;omega) (aS _);obtain⟨BM,BN,-⟩:=af.aK GP;have kV:=aa bX;have MK:=aa GP;have lQ:=aa tu;have fJ:=aa hb4;clear bX bg mA ED rN GP tu hb4 aA bh hsz e1;go_wp2_with fail;go_roundw;case rel=>exact⟨j+1,A4,c4,ae,by go_num,bB kV MK ah _ _,fJ.setCell (p:=⟨w.heap.size+1,2,none⟩) (bU _) _,lQ.far (p:=⟨w.heap.size+1,2,none⟩) (by show w.heap.size≠w.heap.size+1;omega) _,MK.bb 2 _⟩
   case measure=>simp[intOf];omega
  ·have Dv:N=j:=ae;subst Dv;obtain⟨dh,cW,cY⟩:=af.aK HQ;go_wp2_with fail;have hX:=gN HQ oZ oZ (.slice A N c) oN oZ;have l7:=fun i=>af.cell hX i;have e1:aI _ w.heap.size 200 2 eL (.slice A N c) (mz start N):=dw HO HQ ah oZ oZ (.slice A N c) oN oZ;have e3:=eQ HB (aS _) oZ oZ (.slice A N c) oN oZ;change bodyPost _ _ _ _ _ (gv wr w.heap.size oZ oZ (.slice A N c) oN oZ);generalize gv wr w.heap.size oZ oZ (.slice A N c) oN oZ=wz at *;clear aA bh dh cW cY aU;refine bodyPost_ret (v:=.agg #[oZ,oZ,.slice A N c,oN,oZ]) ?_ rfl ?_
   ·simp[results,results148,go_sem,l7]
   ·rw[nT];exact⟨_,rfl,A,c,none,0,rfl,e1,aI.nil _ _ _ _ _,e3⟩
end
def mH(c:Mo.bH)(A:Option Addr)(n k:Nat):Value:=.agg #[c.kind,c.threads,c.chans,c.cap,c.nodes,c.aJ,c.aB,c.tags,c.bn,c.ba,.slice A n k]
section
variable(w:World) {c:Mo.bH} {A:Option Addr} {n k:Nat}
theorem wG(hc:Mo.aN c=true)(ht:Mo.bo c<=1048576)(hn:n=c.start.length)(hr:bC w .i64 A c.start) :
 Calls prog 99 #[mH c A n k] w fun e w'=>e=.returned oZ/\Below w w w':=by
 unfold mH
 have HK:=aa (fun w' (hb:Below w w w')=>fG w' hc hn (hr.below hb) (k:=k))
 have HT:=aa (fun w' (hb:Below w w w')=>tq w' hc hn (hr.below hb) (k:=k))
 generalize Mo.bo c=T at *
 clear hc hn hr
 have fI:Below w w (w.alloc (cr c A n k)):=ak (aj w) _
 have GD:af (w.alloc (cr c A n k)) w.heap.size 24 _:=af.new _ _ _
 have bG:=aa fI;have gV:=aa GD
 clear fI GD
 go_enter func99,ntmps99
 go_wp2_with fail
 refine(HK _ bG).mono ?_
 rintro e w1 ⟨rfl,hb1⟩
 have bj:=aa (ag bG hb1);have fh:=aa (gV.ag hb1)
 clear hb1
 obtain⟨fU,-,km⟩:=af.aK fh
 go_wp2_with fail
 refine(HT _ bj).mono ?_
 rintro e w2 ⟨rfl,hb2⟩
 have bq:=aa (ag bj hb2)
 clear hb2
 go_wp2_with fail
 go_ret
 exact⟨rfl,bq⟩
end
section
variable(w:World)
theorem Ja(x:Int):Calls prog 231 #[.int .u64 x] w fun e w'=>e=.returned (.tuple #[.int .u64 x,.bool true])/\w=w':=by go_enter func231,ntmps231;go_wp2;go_ret2;exact⟨rfl,rfl⟩
theorem EE(x y:Int)(b:Nat)(hc:w.cell? ⟨b,0,none⟩=some (.int .u64 y)):Calls prog 232 #[.int .u64 x,.pointer (some ⟨b,0,none⟩)] w fun e w'=>e=.returned (.tuple #[.int .u64 y,.bool true])/\w=w':=by go_enter func232,ntmps232;go_wp2;go_ret2;exact⟨rfl,rfl⟩
theorem ML(x y:Int)(b:Nat)(hc:w.cell? ⟨b,0,none⟩=some (.int .u64 y)):Calls prog 212 #[.int .u64 x,.pointer (some ⟨b,0,none⟩)] w fun e w'=>e=.returned (.tuple #[.int .u64 (IntKind.u64.wrap (x+y)),.bool true])/\w=w':=by go_enter func212,ntmps212;go_wp2;go_ret2;exact⟨rfl,rfl⟩
theorem Jb(x wa y:Int)(b c:Nat)(hb:w.cell? ⟨b,0,none⟩=some (.int .u64 wa))(hc:w.cell? ⟨c,0,none⟩=some (.int .u64 y)):Calls prog 238 #[.int .u64 x,.pointer (some ⟨b,0,none⟩),.pointer (some ⟨c,0,none⟩)] w fun e w' =>
 e=.returned (.tuple #[.int .u64 (if x=wa then y else x),.bool (x==wa)])/\w=w':=by
 by_cases h:x=wa
 ·subst h;go_enter func238,ntmps238;go_wp2;go_ret2;exact⟨aF,rfl⟩
 ·have h1:(x !=wa)=true:=by simpa using h
  have H:=aa h;clear h;go_enter func238,ntmps238;go_wp2;go_ret2;have:=H.out;exact⟨by simp[this],rfl⟩
theorem MM(x wa y:Int)(b c:Nat)(nw:Int)(ok:Bool)(h:Hid ((if x=wa then y else x)=nw/\(x==wa)=ok))(hb:w.cell? ⟨b,0,none⟩=some (.int .u64 wa))(hc:w.cell? ⟨c,0,none⟩=some (.int .u64 y)):Calls prog 238 #[.int .u64 x,.pointer (some ⟨b,0,none⟩),.pointer (some ⟨c,0,none⟩)] w fun e w' =>
 e=.returned (.tuple #[.int .u64 nw,.bool ok])/\w=w':=by
 have k:=Jb w x wa y b c hb hc
 rw[h.out.1,h.out.2]at k
 exact k
def rP(w:World)(base g:Nat)(vl vg vc:Value)(L:List Int)(G:List Acc)(C:List Int)(kp:Bool)(w':World):Prop :=∃vg' sA,dD w' base g vl vg' sA L G C kp/\(∀b,vg'.ownBlock=some b->vg.ownBlock=some b\/w.heap.size<=b)/\(∀b,sA.ownBlock=some b->vc.ownBlock=some b\/w.heap.size<=b)/\Rest w w' g vl vg vc/\Below base w w'
def rQ(kp:Bool)(G:List Acc)(a:Acc):List Acc:=if kp=true then G++[a]else G
def aaH(w:World)(fn:FuncId)(cp:Array Value)(x nw:Int)(ok:Bool):Prop :=
 (fn=231/\cp=#[]/\Hid (x=nw/\true=ok))\/(∃b,fn=232/\cp=#[.pointer (some ⟨b,0,none⟩)]/\w.cell? ⟨b,0,none⟩=some (.int .u64 nw)/\Hid (true=ok)) \/
 (∃b y,fn=212/\cp=#[.pointer (some ⟨b,0,none⟩)]/\w.cell? ⟨b,0,none⟩=some (.int .u64 y)/\Hid (IntKind.u64.wrap (x+y)=nw/\true=ok)) \/
 (∃b c wb y,fn=238/\cp=#[.pointer (some ⟨b,0,none⟩),.pointer (some ⟨c,0,none⟩)]/\w.cell? ⟨b,0,none⟩=some (.int .u64 wb)/\w.cell? ⟨c,0,none⟩=some (.int .u64 y)/\Hid ((if x=wb then y else x)=nw/\(x==wb)=ok))
theorem MN(x nw:Int)(ok:Bool)(h:Hid (x=nw/\true=ok)):Calls prog 231 #[.int .u64 x] w fun e w'=>e=.returned (.tuple #[.int .u64 nw,.bool ok])/\w=w':=by obtain⟨h1,h2⟩:=h.out;subst h1 h2;exact Ja w _
theorem Jc(x y:Int)(b:Nat)(ok:Bool)(h:Hid (true=ok))(hc:w.cell? ⟨b,0,none⟩=some (.int .u64 y)):Calls prog 232 #[.int .u64 x,.pointer (some ⟨b,0,none⟩)] w fun e w'=>e=.returned (.tuple #[.int .u64 y,.bool ok])/\w=w':=by have h2:=h.out;subst h2;exact EE w x y b hc
theorem Rm(x y nw:Int)(b:Nat)(ok:Bool)(h:Hid (IntKind.u64.wrap (x+y)=nw/\true=ok))(hc:w.cell? ⟨b,0,none⟩=some (.int .u64 y)):Calls prog 212 #[.int .u64 x,.pointer (some ⟨b,0,none⟩)] w fun e w'=>e=.returned (.tuple #[.int .u64 nw,.bool ok])/\w=w':=by obtain⟨h1,h2⟩:=h.out;subst h1 h2;exact ML w x y b hc
theorem uP(base g:Nat)(vl vg vc:Value)(L:List Int)(G:List Acc)(C:List Int)(kp:Bool)(th ki wa ol Uh:Int)(k:Nat)(Ui:Bool)(x nw:Int)(ok:Bool)(fn:FuncId)(cp:Array Value)(h:dD w base g vl vg vc L G C kp)(hC:C.length<=64)(hG:G.length<=1000000)(hL:L.length<=2000000)(hx:L[k]?=some x)(hf:aaH w fn cp x nw ok) :
 Calls prog 211 #[.pointer (some ⟨g,0,none⟩),.agg #[.int .i64 th,.int .i64 ki,.int .i64 k,.int .u64 wa,.int .u64 ol,.int .u64 Uh,.bool Ui],.func (.func fn) #[] cp] w fun e w' =>
  e=.returned (.tuple #[.agg #[.int .i64 th,.int .i64 ki,.int .i64 k,.int .u64 wa,.int .u64 x,.int .u64 nw,.bool ok],.int .i64 0])/\rP w base g vl vg vc (L.set k nw) (rQ kp G ⟨th,ki,k,wa,x,nw,ok⟩) (iv C th) kp w':=by
 unfold rQ
 have hne:L≠[]:=by rintro rfl;simp at hx
 obtain⟨gl,cl,rfl,hgl1,hgl2⟩:=h.form hne
 obtain⟨n,hn⟩:=aD L.length
 have qp:k<n:=by rw[hn];exact(List.getElem?_eq_some_iff.1 hx).1
 rw[<-hn]at h hL ⊢
 have aT:=h.words.cell hx
 have kB:=h.words.frozen k
 obtain⟨hcm,hfm,TC⟩:=af.aK h.blk
 have H:=aa h;have HX:=aa hx;have HN:=aa hn
 have xW:=aa h.uo
 have nP:base<=w.heap.size:=bm h.low (Nat.le_of_lt TC)
 clear h hx hn hne
 have xB:decide ((k:Int)<0)=false:=bJ ae
 have Gw:decide ((n:Int)<=(k:Int))=false:=bJ ae
 have KE:decide (n<=k)=false:=bJ ae
 generalize hAC:(Obj.cells #[.int .i64 th,.int .i64 ki,.int .i64 k,.int .u64 wa,.int .u64 ol,.int .u64 Uh,.bool Ui] 246)=oA
 clear hAC
 have HMY:=aa (oM ((w.alloc (.cells #[.int .i64 th,.int .i64 ki,.int .i64 k,.int .u64 wa,.int .u64 ol,.int .u64 Uh,.bool Ui] 246)).alloc (.cells #[.int .i64 0,.int .i64 0,.int .i64 0,.int .u64 0,.int .u64 0,.int .u64 0,.bool false] 246)) g ⟨gl,0,none⟩ n cl (((H.blk.alloc _).alloc _).cell 0))
 rcases hf with⟨rfl,rfl,AY⟩|⟨b,rfl,rfl,hy,AY⟩|⟨b,y,rfl,rfl,hy,AY⟩|⟨b,c,wb,y,rfl,rfl,hy,hz,AY⟩
 all_goals
  try have hbl:=bc hy
  try have lO:=bc hz
  go_enter func211,ntmps211;go_wp2_with fail;refine HMY.mono ?_;rintro e w' ⟨rfl,rfl⟩;go_wp2_with fail;go_quiet(fail);go_wp2_with fail;go_region;go_wp2_with fail;first
   |refine((MN _ x nw ok AY).mono fun _ _ h=>(⟨h.1,h.2⟩:_/\Same _ _)).mono ?_
   |refine((Jc _ x nw b ok AY (by exact(World.cell?_setCell_other _ _ _ _ (by first|(simp;done)|(simp;omega))).trans (((World.cell?_alloc_lt _ _ _ (by first|(simp;done)|(simp;omega)|omega)).trans (World.cell?_alloc_lt _ _ _ (by first|(simp;done)|(simp;omega)|omega))).trans hy))).mono fun _ _ h=>(⟨h.1,h.2⟩:_/\Same _ _)).mono ?_
   |refine((Rm _ x y nw b ok AY (by exact(World.cell?_setCell_other _ _ _ _ (by first|(simp;done)|(simp;omega))).trans (((World.cell?_alloc_lt _ _ _ (by first|(simp;done)|(simp;omega)|omega)).trans (World.cell?_alloc_lt _ _ _ (by first|(simp;done)|(simp;omega)|omega))).trans hy))).mono fun _ _ h=>(⟨h.1,h.2⟩:_/\Same _ _)).mono ?_
   |refine((MM _ x wb y b c nw ok AY (by exact(World.cell?_setCell_other _ _ _ _ (by first|(simp;done)|(simp;omega))).trans (((World.cell?_alloc_lt _ _ _ (by first|(simp;done)|(simp;omega)|omega)).trans (World.cell?_alloc_lt _ _ _ (by first|(simp;done)|(simp;omega)|omega))).trans hy)) (by exact(World.cell?_setCell_other _ _ _ _ (by first|(simp;done)|(simp;omega))).trans (((World.cell?_alloc_lt _ _ _ (by first|(simp;done)|(simp;omega)|omega)).trans (World.cell?_alloc_lt _ _ _ (by first|(simp;done)|(simp;omega)|omega))).trans hz))).mono fun _ _ h=>(⟨h.1,h.2⟩:_/\Same _ _)).mono ?_
  rintro e W1 ⟨rfl,hS⟩;have ud:Hid (dD W1 base g (.slice (some ⟨gl,0,none⟩) n cl) vg vc L G C kp):=hS.to (Q:=fun W=>dD W base g (.slice (some ⟨gl,0,none⟩) n cl) vg vc L G C kp) ((((H.alloc _).alloc _).drew _).far xW (aS _) _);have GR:Hid (af W1 w.heap.size 246 #[.int .i64 th,.int .i64 ki,.int .i64 k,.int .u64 wa,.int .u64 x,.int .u64 Uh,.bool Ui]):=hS.to (Q:=fun W=>af W w.heap.size 246 #[.int .i64 th,.int .i64 ki,.int .i64 k,.int .u64 wa,.int .u64 x,.int .u64 Uh,.bool Ui]) ((((af.new w _ _).alloc _).drewN _).bb 4 (.int .u64 x));have MO:Hid (af W1 (w.heap.size+1) 246 #[.int .i64 0,.int .i64 0,.int .i64 0,.int .u64 0,.int .u64 0,.int .u64 0,.bool false]):=hS.to (Q:=fun W=>af W (w.heap.size+1) 246 #[.int .i64 0,.int .i64 0,.int .i64 0,.int .u64 0,.int .u64 0,.int .u64 0,.bool false]) (((af.newAt _ _ _ aF).drewN _).far aF _);have gI:Hid (Rest w W1 g (.slice (some ⟨gl,0,none⟩) n cl) vg vc):=hS.to (Q:=fun W=>Rest w W g (.slice (some ⟨gl,0,none⟩) n cl) vg vc) (((((Rest.refl w g _ vg vc).alloc (aS _) _).alloc aF _).drew _).jV (aS _) _);have bj:Hid (Below base w W1):=hS.to (Q:=fun W=>Below base w W) ((bO (((Below.refl base w).alloc nP _).alloc (by simp;omega) _) _).setCell (p:=⟨w.heap.size,4,none⟩) nP _);have hs1:w.heap.size+1<W1.heap.size:=MO.lt;clear hS aT kB hcm hfm;have aT:=ud.words.cell HX;have kB:=ud.words.frozen k;have hcm:=fun i=>af.cell ud.blk i;obtain⟨hca,hfa,-⟩:=af.aK GR;have Ro:g≠w.heap.size:=ae;have Rp:gl≠w.heap.size:=ae;go_wp2_with fail;go_region;go_wp2_with fail;refine(Ii _ base g (.slice (some ⟨gl,0,none⟩) n cl) vg vc (L.set k nw) G C kp th ?hM hC).mono ?_;case hM=>exact(((ud.far xW (aS _) _).far xW (aS _) _).drew _).store k _
  rintro e W3 ⟨rfl,⟨sA,wH,hvc⟩,GS,oU⟩;have bN:w.heap.size≠gl:=ae;have hbZ:w.heap.size+1≠gl:=ae;have MP:Hid (af W3 w.heap.size 246 #[.int .i64 th,.int .i64 ki,.int .i64 k,.int .u64 wa,.int .u64 x,.int .u64 nw,.bool ok]):=dD.free GS xW ((((GR.bb 5 _).bb 6 _).far (p:=⟨gl,k,none⟩) bN _).drewN 1) (aS _);have PM:Hid (af W3 (w.heap.size+1) 246 #[.int .i64 0,.int .i64 0,.int .i64 0,.int .u64 0,.int .u64 0,.int .u64 0,.bool false]):=dD.free GS xW ((((MO.far (p:=⟨w.heap.size,5,none⟩) aF _).far (p:=⟨w.heap.size,6,none⟩) aF _).far (p:=⟨gl,k,none⟩) hbZ _).drewN 1) ae;have aaI:∀b,sA.ownBlock=some b->vc.ownBlock=some b\/w.heap.size+1<b:=fun b hb=>(hvc b hb).imp id (fun h=>by simp at h;omega);have hs3:w.heap.size+1<W3.heap.size:=PM.lt;have fx:Hid (Rest w W3 g (.slice (some ⟨gl,0,none⟩) n cl) vg vc):=Rest.trans ((((gI.jV (p:=⟨w.heap.size,5,none⟩) (aS _) _).jV (p:=⟨w.heap.size,6,none⟩) (aS _) _).Hw (p:=⟨gl,k,none⟩) rfl _).drew 1) (by simp;omega) GS (fun b hb=>.inl hb) (fun b hb=>.inl hb);have bZ:Hid (Below base w W3):=(bO (n:=1) (((bj.setCell (p:=⟨w.heap.size,5,none⟩) nP _).setCell (p:=⟨w.heap.size,6,none⟩) nP _).setCell (p:=⟨gl,k,none⟩) hgl1 _)).trans oU;have nU:=aa wH;have HVC:=aa aaI;have n1:g≠w.heap.size+1:=ae;have n2:(Value.slice (some ⟨gl,0,none⟩) n cl).ownBlock≠some (w.heap.size+1):=by intro he;simp[Value.ownBlock]at he;omega
  have n3:vg.ownBlock≠some (w.heap.size+1):=by intro he;have:=xW.2.2.1 _ he;omega
  have n4:sA.ownBlock≠some (w.heap.size+1):=by
   intro he;rcases HVC.out _ he with h|h
   ·have:=xW.2.2.2 _ h;omega
   ·omega
  have N1:=aa n1;have N2:=aa n2;have N3:=aa n3;have N4:=aa n4;clear aT kB hcm hca hfa wH hvc aaI GS oU n1 n2 n3 n4;have ad6:g<W3.heap.size:=nU.blk.lt;have hcm:=fun i=>af.cell nU.blk i;have hca:=fun i=>af.cell MP i;obtain⟨eO,hfz,-⟩:=af.aK PM;rcases kp with _|_
  ·go_wp2_with fail;refine bodyPost_ret (v:=?_) ?_ rfl ?_;rotate_left
   ·obtain⟨k0,k1,k2,k3,k4,k5,k6⟩:=u9 PM (.int .i64 th) (.int .i64 ki) (.int .i64 k) (.int .u64 wa) (.int .u64 x) (.int .u64 nw) (.bool ok);exact Uj
   ·exact⟨rfl,vg,sA,yq nU N1 N2 N3 N4 (.int .i64 th) (.int .i64 ki) (.int .i64 k) (.int .u64 wa) (.int .u64 x) (.int .u64 nw) (.bool ok),fun _ hb=>.inl hb,fun b hb=>(HVC b hb).imp id (fun h=>by omega),yo fx ae (.int .i64 th) (.int .i64 ki) (.int .i64 k) (.int .u64 wa) (.int .u64 x) (.int .u64 nw) (.bool ok),qg bZ ae (.int .i64 th) (.int .i64 ki) (.int .i64 k) (.int .u64 wa) (.int .u64 x) (.int .u64 nw) (.bool ok)⟩
  ·go_wp2_with fail;go_region_law(first
    |(refine kP rfl _ _ 137 rfl base 246 7 56 (.agg #[.int .i64 0,.int .i64 0,.int .i64 0,.int .u64 0,.int .u64 0,.int .u64 0,.bool false]) DM K7 K8 underlying137 K9 rfl ah vg G rfl ?_ (some ⟨W3.heap.size,0,none⟩) 1 1 [⟨th,ki,k,wa,x,nw,ok⟩] rfl rfl ?_ ?_ ?_ ?_ ?_;(exact nU.log.alloc _);(exact Rd.lit W3 [.int .i64 th,.int .i64 ki,.int .i64 k,.int .u64 wa,.int .u64 x,.int .u64 nw,.bool ok] _);(simp;omega);(simp;omega);(have:=bZ.size;simp;omega);intro v4 W4 bX bg aaJ;obtain⟨A4,c4,hv4,_⟩:=bX.rd;rw[eN,gC]at hv4;subst hv4;have Rt:af W4 g 139 #[.slice (some ⟨gl,0,none⟩) n cl,vg,sA,.bool true]:=af.grown (by exact nU.blk.alloc _) bg (by exact aV (nU.log.alloc (.cells #[.int .i64 th,.int .i64 ki,.int .i64 k,.int .u64 wa,.int .u64 x,.int .u64 nw,.bool ok] 246)) (nU.blk.alloc _) ah);have ad7:=fun i=>af.cell Rt i;have ad8:=fun i=>af.free Rt i;have ad9:=Rt.lt))
   all_goals
    have hvA:some w.heap.size≠vg.ownBlock:=fun he=>by have:=xW.2.2.1 _ he.symm;omega
    have hvZ:some (w.heap.size+1)≠vg.ownBlock:=fun he=>by have:=xW.2.2.1 _ he.symm;omega
    have hA4:af W4 w.heap.size 246 #[.int .i64 th,.int .i64 ki,.int .i64 k,.int .u64 wa,.int .u64 x,.int .u64 nw,.bool ok]:=af.grown (by exact MP.alloc _) bg hvA;have hZ4:af W4 (w.heap.size+1) 246 #[.int .i64 0,.int .i64 0,.int .i64 0,.int .u64 0,.int .u64 0,.int .u64 0,.bool false]:=af.grown (by exact PM.alloc _) bg hvZ;have MQ:=((nU.alloc (.cells #[.int .i64 th,.int .i64 ki,.int .i64 k,.int .u64 wa,.int .u64 x,.int .u64 nw,.bool ok] 246)).drew 1).La bX bg;have HA5:=aa (hA4.far (p:=⟨g,1,none⟩) (by simp;omega) (.slice A4 (G.length+1) c4));have Cc:=aa (hZ4.far (p:=⟨g,1,none⟩) (by simp;omega) (.slice A4 (G.length+1) c4));have oC:=aa MQ;have iW:Hid (Below base w (W4.setCell ⟨g,1,none⟩ (.slice A4 (G.length+1) c4))):=(((bO (n:=1) (bZ.alloc (by have:=bZ.size;omega) _)).grown bg (by have:=bZ.size;simp;omega) (fun b hb=>(aX nU.log hb).1))).setCell (p:=⟨g,1,none⟩) nU.low _;have xX:∀b,(Value.slice A4 (G.length+1) c4).ownBlock=some b->vg.ownBlock=some b\/w.heap.size+1<b:=by
     intro b hb;rcases aaJ with h|h
     ·exact .inl (h.symm.trans hb)
     ·rw[h]at hb;injection hb with hb;right;rw[<-hb];simp;omega
    have jd:Hid (Rest w (W4.setCell ⟨g,1,none⟩ (.slice A4 (G.length+1) c4)) g (.slice (some ⟨gl,0,none⟩) n cl) vg vc):=(Rest.grown (vg':=vg) (((fx.alloc bZ.size _).drew 1)) (by have:=bZ.size;simp;omega) bg (fun b hb=>.inl hb)).Gb _;have n3:(Value.slice A4 (G.length+1) c4).ownBlock≠some (w.heap.size+1):=by
     intro he;rcases xX _ he with h|h
     ·have:=xW.2.2.1 _ h;omega
     ·omega
    have N5:=aa n3;have wI:=aa xX;have aea:=fun i=>af.cell hA4 i;obtain⟨hcz4,hfz4,hsz4⟩:=af.aK hZ4;clear bg bX aaJ hA4 hZ4 MQ xX n3 hvA hvZ hcm hca eO hfz Rt;go_wp2_with fail;refine bodyPost_ret (v:=?_) ?_ rfl ?_;rotate_left
    ·obtain⟨k0,k1,k2,k3,k4,k5,k6⟩:=u9 Cc (.int .i64 th) (.int .i64 ki) (.int .i64 k) (.int .u64 wa) (.int .u64 x) (.int .u64 nw) (.bool ok);exact Uj
    ·exact⟨rfl,.slice A4 (G.length+1) c4,sA,yq oC N1 N2 N5 N4 (.int .i64 th) (.int .i64 ki) (.int .i64 k) (.int .u64 wa) (.int .u64 x) (.int .u64 nw) (.bool ok),fun b hb=>(wI b hb).imp id (fun h=>by omega),fun b hb=>(HVC b hb).imp id (fun h=>by omega),yo jd ae (.int .i64 th) (.int .i64 ki) (.int .i64 k) (.int .u64 wa) (.int .u64 x) (.int .u64 nw) (.bool ok),qg iW ae (.int .i64 th) (.int .i64 ki) (.int .i64 k) (.int .u64 wa) (.int .u64 x) (.int .u64 nw) (.bool ok)⟩
theorem rP.back{w w0:World}(h:rP w0 base g vl vg vc L G C kp w1)(hb:Below w.heap.size w w0)(nP:base<=w.heap.size):rP w base g vl vg vc L G C kp w1:=by obtain⟨vg',sA,h1,h2,h3,h4,h5⟩:=h;refine⟨vg',sA,h1,fun b hb'=>(h2 b hb').imp id (fun k=>bm hb.size k),fun b hb'=>(h3 b hb').imp id (fun k=>bm hb.size k),fun b hb' a0 a1 a2 a3=>(h4 b (bF hb' hb.size) a0 a1 a2 a3).trans (hb.block b hb'),(hb.mono nP).trans h5⟩
theorem rP.more{w:World}(h:rP w base g vl vg vc L G C kp w1)(o:Obj):rP w base g vl vg vc L G C kp (w1.alloc o):=by obtain⟨vg',sA,h1,h2,h3,h4,h5⟩:=h;have hs:=h5.size;have hl:=bm h1.low (Nat.le_of_lt h1.blk.lt);exact⟨vg',sA,h1.alloc o,h2,h3,fun b hb' a0 a1 a2 a3=>(Below.heap_alloc w1 o b ae).trans (h4 b hb' a0 a1 a2 a3),h5.alloc hl o⟩
section
variable(base g:Nat) (vl vg vc:Value) (L:List Int) (G:List Acc) (C:List Int) (kp:Bool)
theorem MR(th:Int)(k:Nat)(x:Int)(h:dD w base g vl vg vc L G C kp)(hC:C.length<=64)(hG:G.length<=1000000)(hL:L.length<=2000000)(hx:L[k]?=some x) :
 Calls prog 201 #[.pointer (some ⟨g,0,none⟩),.int .i64 th,.int .i64 k] w fun e w' =>
  e=.returned (.tuple #[.int .u64 x,.int .i64 0])/\rP w base g vl vg vc (L.set k (x)) (rQ kp G ⟨th,1,k,0,x,x,true⟩) (iv C th) kp w':=by
 have pJ:Below w.heap.size w w:=aj w
 have HD:=aa (uP w base g vl vg vc L G C kp th 1 0 0 0 k false x x true 231 #[] (h.ag pJ) hC hG hL hx (.inl ⟨rfl,rfl,rfl,rfl⟩))
 have HB:=aa pJ
 have H:=aa h
 have nP:base<=w.heap.size:=bm h.low (Nat.le_of_lt h.blk.lt)
 have YE:∀(fn:Fn) (first cap:Array Value) (w:World),(Instr.makeFunc fn first cap).run prog w=.ok (.func fn first cap) w:=fun _ _ _ _=>rfl
 clear h hx pJ
 go_enter func201,ntmps201
 exact Wp
theorem Jd(th:Int)(k:Nat)(x:Int)(y:Int)(h:dD w base g vl vg vc L G C kp)(hC:C.length<=64)(hG:G.length<=1000000)(hL:L.length<=2000000)(hx:L[k]?=some x) :
 Calls prog 202 #[.pointer (some ⟨g,0,none⟩),.int .i64 th,.int .i64 k,.int .u64 y] w fun e w' =>
  e=.returned (.int .i64 0)/\rP w base g vl vg vc (L.set k (y)) (rQ kp G ⟨th,2,k,0,x,y,true⟩) (iv C th) kp w':=by
 have pJ:Below w.heap.size w (w.alloc (.cells #[.int .u64 y] 44)):=(ak (aj w) (.cells #[.int .u64 y] 44))
 have HD:=aa (uP (w.alloc (.cells #[.int .u64 y] 44)) base g vl vg vc L G C kp th 2 0 0 0 k false x y true 232 #[.pointer (some ⟨w.heap.size,0,none⟩)] (h.ag pJ) hC hG hL hx (.inr (.inl ⟨w.heap.size,rfl,rfl,aF,rfl⟩)))
 have HB:=aa pJ
 have H:=aa h
 have nP:base<=w.heap.size:=bm h.low (Nat.le_of_lt h.blk.lt)
 have YE:∀(fn:Fn) (first cap:Array Value) (w:World),(Instr.makeFunc fn first cap).run prog w=.ok (.func fn first cap) w:=fun _ _ _ _=>rfl
 clear h hx pJ
 go_enter func202,ntmps202
 go_wp2_with fail
 refine HD.mono ?_
 rintro e w1 ⟨rfl,hN⟩
 have HN:=aa ((hN.back HB nP))
 clear hN
 go_wp2_with fail
 go_ret
 exact⟨rfl,HN.more _⟩
theorem Ru(th:Int)(k:Nat)(x:Int)(y:Int)(h:dD w base g vl vg vc L G C kp)(hC:C.length<=64)(hG:G.length<=1000000)(hL:L.length<=2000000)(hx:L[k]?=some x) :
 Calls prog 171 #[.pointer (some ⟨g,0,none⟩),.int .i64 th,.int .i64 k,.int .u64 y] w fun e w' =>
  e=.returned (.tuple #[.int .u64 x,.int .i64 0])/\rP w base g vl vg vc (L.set k ((IntKind.u64.wrap (x+y)))) (rQ kp G ⟨th,4,k,0,x,(IntKind.u64.wrap (x+y)),true⟩) (iv C th) kp w':=by
 have pJ:Below w.heap.size w (w.alloc (.cells #[.int .u64 y] 44)):=(ak (aj w) (.cells #[.int .u64 y] 44))
 have HD:=aa (uP (w.alloc (.cells #[.int .u64 y] 44)) base g vl vg vc L G C kp th 4 0 0 0 k false x (IntKind.u64.wrap (x+y)) true 212 #[.pointer (some ⟨w.heap.size,0,none⟩)] (h.ag pJ) hC hG hL hx (.inr (.inr (.inl ⟨w.heap.size,y,rfl,rfl,aF,rfl,rfl⟩))))
 have HB:=aa pJ
 have H:=aa h
 have nP:base<=w.heap.size:=bm h.low (Nat.le_of_lt h.blk.lt)
 have YE:∀(fn:Fn) (first cap:Array Value) (w:World),(Instr.makeFunc fn first cap).run prog w=.ok (.func fn first cap) w:=fun _ _ _ _=>rfl
 clear h hx pJ
 go_enter func171,ntmps171
 exact Wp
theorem MT(th:Int)(k:Nat)(x:Int)(wb y nw1:Int)(ok1:Bool)(h:dD w base g vl vg vc L G C kp)(hC:C.length<=64)(hG:G.length<=1000000)(hL:L.length<=2000000)(hx:L[k]?=some x)(AY:Hid ((if x=wb then y else x)=nw1/\(x==wb)=ok1)) :
 Calls prog 210 #[.pointer (some ⟨g,0,none⟩),.int .i64 th,.int .i64 k,.int .u64 wb,.int .u64 y] w fun e w' =>
  e=.returned (.tuple #[.bool ok1,.int .i64 0])/\rP w base g vl vg vc (L.set k (nw1)) (rQ kp G ⟨th,3,k,wb,x,nw1,ok1⟩) (iv C th) kp w':=by
 have pJ:Below w.heap.size w ((w.alloc (.cells #[.int .u64 wb] 44)).alloc (.cells #[.int .u64 y] 44)):=(ak ((ak (aj w) (.cells #[.int .u64 wb] 44))) (.cells #[.int .u64 y] 44))
 have HD:=aa (uP ((w.alloc (.cells #[.int .u64 wb] 44)).alloc (.cells #[.int .u64 y] 44)) base g vl vg vc L G C kp th 3 wb 0 0 k false x nw1 ok1 238 #[.pointer (some ⟨w.heap.size,0,none⟩),.pointer (some ⟨w.heap.size+1,0,none⟩)] (h.ag pJ) hC hG hL hx (.inr (.inr (.inr ⟨w.heap.size,w.heap.size+1,wb,y,rfl,rfl,aF,aF,AY⟩))))
 have HB:=aa pJ
 have H:=aa h
 have nP:base<=w.heap.size:=bm h.low (Nat.le_of_lt h.blk.lt)
 have YE:∀(fn:Fn) (first cap:Array Value) (w:World),(Instr.makeFunc fn first cap).run prog w=.ok (.func fn first cap) w:=fun _ _ _ _=>rfl
 clear h hx pJ
 go_enter func210,ntmps210
 exact Wp
end
end
section
variable(w:World) (base g:Nat) (vl vg vc:Value) (L:List Int) (G:List Acc) (C:List Int) (kp:Bool)
theorem MU(b:Bool)(h:dD w base g vl vg vc L G C kp)(hne:L≠[]) :
 Calls prog 45 #[.pointer g,b] w fun e w'=>e=.returned (.tuple #[])/\rP w base g vl vg vc L G C b w':=by
 obtain⟨gl,cl,rfl,hgl1,hgl2⟩:=h.form hne
 have HY:=aa (oM w g ⟨gl,0,none⟩ L.length cl (h.blk.cell 0))
 obtain⟨hcm,hfm,TC⟩:=af.aK h.blk
 have H:=aa h
 clear h
 go_enter func45,ntmps45
 go_wp2_with fail
 refine HY.mono ?_
 rintro e w' ⟨rfl,rfl⟩
 go_wp2_with fail
 go_end0
 have hm:=H.out
 exact⟨rfl,vg,vc,⟨af.bb hm.blk 3 b,bB hm.words hm.blk ah _ _,bB hm.log hm.blk ah _ _,bB hm.counts hm.blk ah _ _,hm.low⟩,fun _ hb=>.inl hb,fun _ hb=>.inl hb,(Rest.refl w g _ vg vc).Gb _,(Below.refl _ _).setCell (p:=⟨g,3,none⟩) hm.low _⟩
theorem o8{gl cl nl:Nat}:∀(ys:List Int) (w:World) (L:List Int) (k:Nat),dD w base g (.slice gl nl cl) vg vc L G C kp->(∀b,b≠gl->(w.setCells gl k (ys.map (Value.int .u64))).heap[b]?=w.heap[b]?)/\(w.setCells gl k (ys.map (Value.int .u64))).heap.size=w.heap.size/\(base<=gl->Below base w (w.setCells gl k (ys.map (Value.int .u64))))/\dD (w.setCells gl k (ys.map (Value.int .u64))) base g (.slice gl nl cl) vg vc (Mo.j8 L k ys) G C kp
 |[],w,L,k,h=>⟨fun _ _=>rfl,rfl,fun _=>Below.refl _ _,h⟩
 |y::ys,w,L,k,h=>by
  have h1:=h.store k y
  obtain⟨a1,a2,a3,a4⟩:=o8 ys _ _ (k+1) h1
  refine⟨fun b hb=>(a1 b hb).trans (dp _ _ _ _ hb),a2.trans aF,fun hb=>((Below.refl base w).setCell (p:=⟨gl,k,none⟩) hb _).trans (a3 hb),?_⟩
  unfold Mo.j8 Mo.setAt
  rw[ai ae,fF]
  exact a4
theorem Cf(k:Nat)(ys:List Int)(A:Option Addr)(m c:Nat)(hm:m=ys.length)(h:dD w base g vl vg vc L G C kp)(hL:L.length<=2000000)(hk:k+ys.length<=L.length)(hne:ys≠[])(hy:bC w .u64 A ys) :
 Calls prog 102 #[.pointer g,k,.slice A m c] w fun e w'=>e=.returned oZ/\rP w base g vl vg vc (Mo.j8 L k ys) G C kp w':=by
 have Wq:0<ys.length:=List.length_pos_iff.2 hne
 have z8:L≠[]:=by rintro rfl;rw[List.length_nil]at hk;omega
 obtain⟨gl,cl,rfl,hgl1,hgl2⟩:=h.form z8
 obtain⟨n,hn⟩:=aD L.length
 rw[<-hn]at h hL hk ⊢
 have lO:n<=cl:=h.words.cap.2
 obtain⟨hcm,-,TC⟩:=af.aK h.blk
 obtain⟨a,z,rfl,_,_⟩:=hy.at_ (i:=0) Wq
 have HY:=aa (oM w g ⟨gl,0,none⟩ n cl (h.blk.cell 0))
 have xB:decide ((k:Int)<0)=false:=bJ ae
 have Gw:decide ((n:Int)<(k:Int))=false:=bJ ae
 have KE:decide (n<k)=false:=bJ ae
 have Ub:decide ((n:Int)-(k:Int)<(m:Int))=false:=bJ ae
 have hkc:k<cl:=ae
 have aA:=run_copy_cells (P:=prog) w 43 43 3 44 gl k (n-k) (cl-k) a m c (ys.map (Value.int .u64)) underlying43 (by kernel_rfl) (by rw[eK, <-hm];exact(Nat.min_eq_left ae).symm)
  (by
    intro j u hj;obtain⟨a',h1,h2⟩:=hy j u hj;injection h1 with h1;subst h1;exact h2)
  (by
    intro j hj;rw[eK]at hj;obtain⟨z,hz⟩:∃z,L[k+j]?=some z:=⟨_,cD ae⟩
    rw[h.words.cell hz];rfl)
  (by intro j hj;exact h.words.frozen _)
  (by
    intro u hu;obtain⟨z,_,rfl⟩:=List.mem_map.1 hu;rfl)
 have hsw:=o8 base g vg vc G C kp ys w L k h
 have H:=aa h;have sk:=aa hsw;have HM:=aa hm
 clear h hn hne z8 hy Wq hsw hm
 go_enter func102,ntmps102
 go_wp2_with fail
 refine HY.mono ?_
 rintro e w' ⟨rfl,rfl⟩
 go_wp2_with fail
 go_ret
 obtain⟨a1,a2,a3,a4⟩:=sk.out
 exact⟨rfl,vg,vc,a4,fun _ hb=>.inl hb,fun _ hb=>.inl hb,fun b _ _ h1 _ _=>a1 b (fun e=>h1 (by rw[e];rfl)),a3 hgl1⟩
theorem Ws(th ki ad wa ol Uh:Int)(Ui:Bool)(f:Value)(h:dD w base g vl vg vc L G C kp)(hne:L≠[])(ha:ad<0\/(L.length:Int)<=ad) :
 Calls prog 211 #[.pointer g,.agg #[th,ki,ad,.int .u64 wa,.int .u64 ol,.int .u64 Uh,Ui],f] w fun e w' =>
  e=.returned (.tuple #[.agg #[oZ,oZ,oZ,.int .u64 0,.int .u64 0,.int .u64 0,false],.int .i64 5])/\Below w w w':=by
 obtain⟨gl,cl,rfl,hgl1,hgl2⟩:=h.form hne
 obtain⟨n,hn⟩:=aD L.length
 rw[<-hn]at h ha
 obtain⟨hcm,-,TC⟩:=af.aK h.blk
 have HMY:=aa (oM ((w.alloc (.cells #[th,ki,ad,.int .u64 wa,.int .u64 ol,.int .u64 Uh,Ui] 246)).alloc (.cells #[oZ,oZ,oZ,.int .u64 0,.int .u64 0,.int .u64 0,false] 246)) g ⟨gl,0,none⟩ n cl (((h.blk.alloc _).alloc _).cell 0))
 clear h hn hne
 by_cases h0:ad<0
 ·exact aaK
 ·have xB:decide (ad<0)=false:=bJ h0;have Gw:decide ((n:Int)<=ad)=true:=dg ae;exact aaK
theorem MV(th ad:Int)(h:dD w base g vl vg vc L G C kp)(hne:L≠[])(ha:ad<0\/(L.length:Int)<=ad) :
 Calls prog 201 #[.pointer g,th,ad] w fun e w'=>e=.returned (.tuple #[.int .u64 0,.int .i64 5])/\Below w w w':=by
 have HD:=aa (Ws w base g vl vg vc L G C kp th 1 ad 0 0 0 false (.func (.func 231) #[] #[]) h hne ha)
 have YE:∀(fn:Fn) (first cap:Array Value) (w:World),(Instr.makeFunc fn first cap).run prog w=.ok (.func fn first cap) w:=fun _ _ _ _=>rfl
 clear h hne ha
 go_enter func201,ntmps201
 go_wp2_with fail
 refine HD.mono ?_
 rintro e w1 ⟨rfl,hb⟩
 have HB:=aa (ak hb (.cells #[oZ,oZ,oZ,.int .u64 0,.int .u64 0,.int .u64 0,false] 246))
 clear hb
 go_wp2_with fail
 go_ret2
 exact⟨rfl,HB⟩
end
def gJ(w:World)(b:Nat):Prop:=Ty w 3 b\/Ty w 110 b
theorem gJ.lt(h:gJ w b):b<w.heap.size:=h.elim Ty.lt Ty.lt
theorem gJ.below(hb:Below w w w')(h:gJ w b):gJ w' b:=h.elim (fun h=>.inl (h.below hb)) (fun h=>.inr (h.below hb))
theorem Ty.bb(p:Addr)(u:Value)(h:Ty w e b):Ty (w.setCell p u) e b:=by
 obtain⟨ys,fr,h⟩:=h;by_cases hp:p.block=b
 ·subst hp;cases hs:p.spot with
  |none=>exact⟨ys.setIfInBounds p.off u,fr,by simp[World.setCell,Array.getElem?_modify,h,hs]⟩
  |some q=>exact⟨ys,fr,by simp[World.setCell,Array.getElem?_modify,h,hs]⟩
 ·exact⟨ys,fr,(dp _ _ _ _ (fun h=>hp h.symm)).trans h⟩
theorem gJ.bb(p:Addr)(u:Value)(h:gJ w b):gJ (w.setCell p u) b:=h.elim (fun h=>.inl (h.bb p u)) (fun h=>.inr (h.bb p u))
theorem gJ.not{t:TypeId}{fr:Nat×Nat}(hg:w.heap[g]?=some (.cells ys t fr))(h1:t≠3)(h2:t≠110):¬gJ w g:=by
 rintro(⟨zs,f,h⟩|⟨zs,f,h⟩)
 ·rw[hg]at h;injection h with h;injection h with _ h _;exact h1 h
 ·rw[hg]at h;injection h with h;injection h with _ h _;exact h2 h
def av(w:World)(g:Nat):Nat->List Value->World
 |_,[]=>w
 |o,v::vs=>av (w.setCell ⟨g,o,none⟩ v) g (o+1) vs
def fK{α:Type}(L:List α):Nat->List α->List α
 |_,[]=>L
 |o,v::vs=>fK (L.set o v) (o+1) vs
theorem aM(hne:b≠g):∀(vs:List Value) (o:Nat),(av w g o vs).heap[b]?=w.heap[b]?:=by
 intro vs;induction vs generalizing w with
 |nil=>intro o;rfl
 |cons v vs ih=>intro o;exact(ih (o+1)).trans (dp _ _ _ _ hne)
theorem bw:∀(vs:List Value) (w:World) (o:Nat),(av w g o vs).heap.size=w.heap.size:=by
 intro vs;induction vs with
 |nil=>intro w o;rfl
 |cons v vs ih=>intro w o;rw[av,ih];simp[World.setCell]
theorem aw{B:Nat}{a:World}(hg:B<=g):∀(vs:List Value) (w:World) (o:Nat),Below B a w->Below B a (av w g o vs):=by
 intro vs;induction vs with
 |nil=>intro w o h;exact h
 |cons v vs ih=>intro w o h;exact ih _ _ (h.setCell (p:=⟨g,o,none⟩) hg v)
theorem rR{c:Nat}:∀(vs:List Value) (w:World) (o:Nat) (xs:List Value),w.ownsRow base e m (.slice g n c) n xs->(av w g o vs).ownsRow base e m (.slice g n c) n (fK xs o vs):=by
 intro vs;induction vs with
 |nil=>intro w o xs h;exact h
 |cons v vs ih=>intro w o xs h;exact ih _ _ _ (World.ownsRow.stored h o v).1
theorem bR(hg:∀g',v.ownBlock=some g'->g'≠g):∀(vs:List Value) (w:World) (o:Nat) (xs:List Value),w.ownsRow base e m v n xs->(av w g o vs).ownsRow base e m v n xs:=by
 intro vs;induction vs with
 |nil=>intro w o xs h;exact h
 |cons u vs ih=>intro w o xs h;exact ih _ _ _ (cG h (p:=⟨g,o,none⟩) hg u)
theorem GU:∀(vs:List Value) (w:World) (o:Nat),Ty w e b->Ty (av w g o vs) e b:=by
 intro vs;induction vs with
 |nil=>intro w o h;exact h
 |cons v vs ih=>intro w o h;exact ih _ _ (h.bb _ v)
theorem eT(vs:List Value)(w:World)(o:Nat)(h:gJ w b):gJ (av w g o vs) b:=h.elim (fun h=>.inl (GU vs w o h)) (fun h=>.inr (GU vs w o h))
theorem aW{t:TypeId}{xs:Array Value}(h:af w b t xs)(hne:b≠g)(vs:List Value)(o:Nat):af (av w g o vs) b t xs:=(aM hne vs o).trans h
theorem MW(vs L:List α)(h:L.length=vs.length):fK L 0 vs=vs:=by
 have:∀(vs A B:List α),A.length=vs.length->fK (B++A) B.length vs=B++vs:=by
  intro vs;induction vs with
  |nil=>intro A B h;rw[List.eq_nil_of_length_eq_zero h];rfl
  |cons v vs ih =>
   intro A B h;rcases A with _|⟨a,A⟩
   ·simp at h
   ·simp at h;have e:(B++a::A).set B.length v=(B++[v])++A:=aF;show fK ((B++a::A).set B.length v) (B.length+1) vs=_;rw[e];have:=ih A (B++[v]) h;rw[eN,gC]at this;rw[this];simp
 simpa using this vs L [] h
theorem cX{t:TypeId}:∀(vs:List Value) (w:World) (o:Nat) (cs:List Value),af w g t cs.toArray->af (av w g o vs) g t (fK cs o vs).toArray:=by
 intro vs;induction vs with
 |nil=>intro w o cs h;exact h
 |cons v vs ih=>intro w o cs h;have:=h.bb o v;exact ih _ _ _ (by simpa using this)
theorem aR{t:TypeId}{cs vs:List Value}(h:af w g t cs.toArray)(hl:cs.length=vs.length):af (av w g 0 vs) g t vs.toArray:=by have:=cX vs w 0 cs h;rw[MW vs cs hl]at this;exact this
theorem Je:∀(vs L:List α) (o:Nat),(fK L o vs).length=L.length:=by
 intro vs;induction vs with
 |nil=>intro L o;rfl
 |cons v vs ih=>intro L o;rw[fK,ih,cK]
theorem tv:∀(vs A B:List α) (o:Nat),A.length<=o->fK (A++B) o vs=A++fK B (o-A.length) vs:=by
 intro vs;induction vs with
 |nil=>intro A B o _;rfl
 |cons v vs ih=>intro A B o h;rw[fK,List.set_append_right _ _ h,ih _ _ _ ae,fK];rw[show o+1-A.length=o-A.length+1 by omega]
theorem yT:∀(vs A B:List α),A.length=vs.length->fK (A++B) 0 vs=vs++B:=by
 intro vs;induction vs with
 |nil=>intro A B h;rw[List.eq_nil_of_length_eq_zero h];rfl
 |cons v vs ih =>
  intro A B h;rcases A with _|⟨a,A⟩
  ·simp at h
  ·simp at h;show fK ((v::A)++B) 1 vs=_;have:=tv vs [v] (A++B) 1 aF;simp at this;rw[List.cons_append,this,ih A B h];rfl
theorem tx:∀(rows:List (Row m)) (i:Nat) (r:Row m),i<rows.length->fK (rows.flatMap dR) (i*m) r.val=(rows.set i r).flatMap dR:=by
 intro rows;induction rows with
 |nil=>intro i r h;simp at h
 |cons x l ih =>
  intro i r h;rcases i with _|i
  ·rw[List.flatMap_cons,Nat.zero_mul,yT _ _ _ (by rw[bQ];exact r.property.1.symm)];rfl
  ·rw[List.flatMap_cons,tv _ _ _ _ (by rw[bQ,Nat.add_mul];omega),bQ,show(i+1)*m-m=i*m by rw[Nat.add_mul];omega,ih i r (by simpa using h)];rfl
section
variable{α:Type} {m:Nat} {P:qN α} {w w':World} {S S':Nat->Prop} {xs:List α} {e:TypeId} {base g n c:Nat} {v:Value}
theorem aH.shape(h:aH e m P w base S v xs):∃A c,v=.slice A xs.length c:=by obtain⟨A,c,h1,_⟩:=h.YF;exact⟨A,c,h1⟩
theorem aH.len(h:aH e m P w base S (.slice g n c) xs):n=xs.length:=by obtain⟨A,c',h1,_⟩:=h.YF;injection h1
theorem aH.form(h:aH e m P w base S v xs)(hne:xs≠[]):∃g c,v=.slice (some ⟨g,0,none⟩) xs.length c/\base<=g/\g<w.heap.size:=by obtain⟨rows,h1,h2,_⟩:=h;rw[<-h1];exact h2.form (by intro h0;rw[h0]at h1;exact hne (List.eq_nil_of_length_eq_zero h1.symm))
theorem aH.at_(h:aH e m P w base S (.slice g n c) xs){x:α}(hx:xs[i]?=some x) :
 ∃r,P w S r x/\r.length=m/\∀(j:Nat) (u:Value),r[j]?=some u->w.cell? ⟨g,i*m+j,none⟩=some u:=by
 obtain⟨rows,h1,h2,h3⟩:=h
 have hi:i<rows.length:=by rw[h1];exact cE hx
 have hr:=cD hi
 exact⟨rows[i].val,h3 i _ x hr hx,rows[i].property.1,fun j u hu=>h2.cells bQ hr hu⟩
theorem aH.ck(h:aH e m P w base S (.slice g n c) xs)(i:Nat):w.frozen? ⟨g,i,none⟩=false:=by obtain⟨rows,h1,h2,h3⟩:=h;exact h2.frozen i
theorem aH.ty(h:aH e m P w base S (.slice g n c) xs):∃ys,w.heap[g]?=some (.cells ys e (0,0))/\base<=g:=by
 obtain⟨rows,h1,h2,h3⟩:=h;rcases h2.2 with⟨h',_⟩|⟨g',cap,cur,hv,hb,hh,_⟩
 ·cases h'
 ·injection hv with h1 h2 h3;injection h1 with h1;injection h1 with h1
  subst h1;exact⟨cur,hh,hb⟩
theorem aH.Jf(gd:Good P)(h:aH e m P w base S (.slice g n c) xs)(hi:i<xs.length)(vs:List Value)(hv:vs.length=m)(h1:∀u∈vs,u.oneCell'=true)(hS:¬S g){y:α}(hP:P w S vs y) :
 aH e m P (av w g (i*m) vs) base S (.slice g n c) (xs.set i y):=by
 have hlen:=h.len
 obtain⟨rows,hr1,hr2,hr3⟩:=h
 have hi':i<rows.length:=ae
 have hsm:Sm S w (av w g (i*m) vs):=fun b hb=>aM (fun he=>by subst he;exact hS hb) vs _
 refine⟨rows.set i ⟨vs,hv,h1⟩,by simp[hr1],?_,?_⟩
 ·have hn:n=rows.length:=ae;subst hn;have:=rR vs w (i*m) _ hr2;unfold aI;rw[cK, <-tx rows i ⟨vs,hv,h1⟩ hi'];exact this
 ·intro j r x hr hx;by_cases hj:j=i
  ·subst hj;rw[List.getElem?_set_self hi']at hr;rw[List.getElem?_set_self hi]at hx;injection hr with hr;injection hx with hx
   subst hr hx;exact gd.same hsm hP
  ·rw[List.getElem?_set_ne (fun h=>hj h.symm)]at hr hx;exact gd.same hsm (hr3 j r x hr hx)
theorem aH.acW(gd:Good P)(h:aH e m P w base S (.slice g n c) xs){x:α}(hx:xs[i]?=some x)(j:Nat)(hj:j<m)(u:Value)(h1:u.oneCell'=true)(hS:¬S g){y:α}(hP:∀r,r.length=m->P w S r x->P w S (r.set j u) y) :
 aH e m P (w.setCell ⟨g,i*m+j,none⟩ u) base S (.slice g n c) (xs.set i y):=by
 have hlen:=h.len
 obtain⟨rows,hr1,hr2,hr3⟩:=h
 have hi:i<xs.length:=cE hx
 have hi':i<rows.length:=ae
 have hsm:Sm S w (w.setCell ⟨g,i*m+j,none⟩ u):=fun b hb=>dp _ _ _ _ (fun he=>by have he:b=g:=he;subst he;exact hS hb)
 have Ud:=cD hi'
 have EF:∀z∈rows[i].val.set j u,z.oneCell'=true:=fun z hz=>by
  rcases List.mem_or_eq_of_mem_set hz with hz|hz
  ·exact rows[i].property.2 z hz
  ·rw[hz];exact h1
 refine⟨rows.set i ⟨rows[i].val.set j u,by rw[cK];exact rows[i].property.1,EF⟩,by simp[hr1],?_,?_⟩
 ·exact hr2.stored bQ Ud hj rfl
 ·intro k r z hr hz;by_cases hk:k=i
  ·subst hk;rw[List.getElem?_set_self hi']at hr;rw[List.getElem?_set_self hi]at hz;injection hr with hr;injection hz with hz
   subst hr hz;exact gd.same hsm (hP _ rows[k].property.1 (hr3 k _ x Ud hx))
  ·rw[List.getElem?_set_ne (fun h=>hk h.symm)]at hr hz;exact gd.same hsm (hr3 k r z hr hz)
theorem aH.move(gd:Good P)(h:aH e m P w base S v xs)(hs:Sm S w w')(hg:∀g,v.ownBlock=some g->w'.heap[g]?=w.heap[g]?):aH e m P w' base S v xs:=by
 obtain⟨rows,h1,h2,h3⟩:=h;refine⟨rows,h1,⟨h2.1,?_⟩,fun i r x a b=>gd.same hs (h3 i r x a b)⟩;rcases h2.2 with h2|⟨g',cap,cur,hv,hb,hh,r⟩
 ·exact .inl h2
 ·exact .inr ⟨g',cap,cur,hv,hb,by rw[hg g' (by rw[hv];rfl)];exact hh,r⟩
theorem aH.jl(gd:Good P)(h:aH e m P w base (gJ w) v xs)(hb:Below w w w'):aH e m P w' base (gJ w') v xs:=(h.ag gd (fun _ h=>h.lt) hb).mono gd (fun _ h=>h.below hb)
theorem aH.weak{base':Nat}(h:aH e m P w base S v xs)(hb:base'<=base):aH e m P w base' S v xs:=by obtain⟨rows,h1,h2,h3⟩:=h;exact⟨rows,h1,h2.weak hb,h3⟩
theorem jF.jl(gd:Good P)(h:jF m P w (gJ w) A xs)(hb:Below w w w'):jF m P w' (gJ w') A xs:=(h.below gd (fun _ h=>h.lt) hb).mono gd (fun _ h=>h.below hb)
theorem aH.other(h:aH e m P w base S v xs){g:Nat}{t:TypeId}(hg:af w g t ys)(hne:e≠t):∀g',v.ownBlock=some g'->g'≠g:=by obtain⟨rows,h1,h2,h3⟩:=h;exact fun g' hv he=>aV h2 hg hne (by rw[hv,he])
end
end Go.Proofs.YtjcjjiieblineaaGreat
