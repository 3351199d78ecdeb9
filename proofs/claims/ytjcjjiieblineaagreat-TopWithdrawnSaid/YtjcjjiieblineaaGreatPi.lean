/- Walks and plain facts. No condition. -/
import Derived.Test.YtjcjjiieblineaaGreatPh
namespace Go.Proofs.YtjcjjiieblineaaGreat
open Go.RowKit Go.Proofs.Tryz
set_option maxHeartbeats 8000000
set_option maxRecDepth 100000
set_option linter.all false
variable {w w' wr:World}{n g base k m i t b j q d m3 m1 n3 m2 dd g3 bl:Nat}{α:Type}{A A1 A3 B A2 D:Option Addr}{c:Mo.bH}{v:Value}{S:Nat->Prop}{h:Mo.Hl}{L:List Int}{x:Mo.Wt}{hd dir sq T W ba:Int}{t1 t2:TypeId}{ok:Bool}{c1:List Value}{xs:List α}{f:α->List Value}{z:α}
theorem wJ{L:List α}(h:L[k]?=some z):L.set k z=L:=by
 apply List.ext_getElem?;intro i;by_cases hi:i=k
 ·subst hi;rw[List.getElem?_set_self (cE h),h]
 ·rw[List.getElem?_set_ne (fun h=>hi h.symm)]
theorem o9(w:World)(A:Option Addr)(c:Nat)(xs:List (Int×Int×Int))(hn:n=xs.length)(hl:n<=1000000)(hr:cN w bk A xs) :
 Calls prog 96 #[.slice A n c] w (ri 110 3 bk w xs n) :=
 (D5 w A c (xs.map (iM bk eZ sG)) (by simpa using hn) hl (cN.rows.2 hr)).mono fun _ _ h=>h.toF
theorem qB(w:World)(A:Option Addr)(c:Nat)(xs:List Mo.Rs)(hn:n=xs.length)(hl:n<=1000000)(hr:cN w dA A xs) :
 Calls prog 267 #[.slice A n c] w (ri 48 4 dA w xs n) :=
 (Ig w A c (xs.map (iM dA cm oV)) (by simpa using hn) hl (cN.rows.2 hr)).mono fun _ _ h=>h.toF
abbrev fX (w:World) (A:Option Addr) (xs:List Mo.Wt):Prop:=jF 4 TX w (gJ w) A xs
abbrev ko (w:World) (base:Nat) (v:Value) (xs:List Mo.Wt):Prop:=aH 79 4 TX w base (gJ w) v xs
abbrev oD (w:World) (A:Option Addr) (xs:List Mo.Ch):Prop:=jF 5 TV w (gJ w) A xs
abbrev MX (w:World) (base:Nat) (v:Value) (xs:List Mo.Ch):Prop:=aH 83 5 TV w base (gJ w) v xs
theorem Cg(w:World)(A:Option Addr)(c:Nat)(xs:List Mo.Wt)(hn:n=xs.length)(hl:n<=1000000)(hr:fX w A xs) :
 Calls prog 281 #[.slice A n c] w fun e w'=>∃B d,e=.returned (.slice B n d)/\ko w' w.heap.size (.slice B n d) xs/\Below w w w':=by
 obtain⟨rows,h1,h2,h3⟩:=hr
 refine(D7 w A c rows (by rw[h1];exact hn) hl h2).mono fun _ w' h=>?_
 obtain⟨B,d,h4,_,h5,h6⟩:=eG.Z5 aP (fun _ h=>h.lt) h1 h3 h
 exact⟨B,d,h4,h5.mono aP (fun _ h=>h.below h6),h6⟩
theorem Ci(w:World)(A:Option Addr)(c:Nat)(xs:List Mo.Ch)(hn:n=xs.length)(hl:n<=1000000)(hr:oD w A xs) :
 Calls prog 271 #[.slice A n c] w fun e w'=>∃B d,e=.returned (.slice B n d)/\MX w' w.heap.size (.slice B n d) xs/\Below w w w':=by
 obtain⟨rows,h1,h2,h3⟩:=hr
 refine(D6 w A c rows (by rw[h1];exact hn) hl h2).mono fun _ w' h=>?_
 obtain⟨B,d,h4,_,h5,h6⟩:=eG.Z5 b9 (fun _ h=>h.lt) h1 h3 h
 exact⟨B,d,h4,h5.mono b9 (fun _ h=>h.below h6),h6⟩
def Wu(xs:List Mo.Wt)(n:Nat)(w:World)(v:Value)(w':World):Prop:=∃A c,v=.slice A n c/\ko w' w.heap.size (.slice A n c) xs/\Below w w w'
theorem ko.Jg{c:Nat}{xs:List Mo.Wt}(h:ko w base (.slice g n c) xs)(hx:xs[j]?=some x)(hd:x.cases.length<=d)(hr:cN w bk B x.cases)(hB:∀b,B=some b->Ty w 110 b.block):ko (w.setCell ⟨g,j*4+3,none⟩ (.slice B x.cases.length d)) base (.slice g n c) xs:=by
 obtain⟨ys,hg,_⟩:=h.ty
 have:=h.acW aP hx 3 ah (.slice B x.cases.length d) rfl (gJ.not hg ah ah) (y:=x) (fun r hr1 hr2=>by
  obtain⟨B',d',rfl,_,_⟩:=hr2
  exact⟨B,d,rfl,hd,hr,fun ad ha _=>.inr (hB ad ha)⟩)
 rw[wJ hx]at this
 exact this.mono aP fun b hb=>hb.bb _ _
section
variable(w:World)
theorem ib(A:Option Addr)(c:Nat)(xs:List Mo.Wt)(hn:n=xs.length)(hl:n<=100000)(hr:fX w A xs)(hc:∀x∈xs,x.cases.length<=100000) :
 Calls prog 272 #[.slice A n c] w fun e w'=>∃v,e=.returned v/\Wu xs n w v w':=by
 have gu:=aa (Cg w A c xs hn ae hr)
 have HN:=aa hn;have HC:=aa hc
 clear hn hr hc
 go_enter func272,ntmps272
 go_wp2_with fail
 refine gu.mono ?_
 rintro e w1 ⟨B,d,rfl,eo,hb1⟩
 have jO:=aa eo;have bj:=aa hb1
 clear eo hb1 gu
 go_wp2_with fail
 go_loopw[4,9] (fun _ i wr=>∃j:Nat,j<=n/\i=j/\Hid (ko wr w.heap.size (.slice B n d) xs)/\Hid (Below w w wr)) (fun _ i _=>n-(intOf i).toNat)
 case atStart=>exact⟨0,aY _,rfl,jO,bj⟩
 case round =>
  obtain⟨j,hj,rfl,HO,HB⟩:=hrel;by_cases hlt:j<n
  ·have hne:xs≠[]:=by have:=HN.out;rintro rfl;simp at this;omega
   obtain⟨g,c',hv,hg0,hg1⟩:=HO.form hne;injection hv with e1 e2 e3
   have iD:=aa e2;subst e1 e3;clear e2 hne;obtain⟨x,hx⟩:∃x,xs[j]?=some x:=⟨_,cD (by rw[<-HN.out];exact hlt)⟩
   obtain⟨r,hP,ju,hcell⟩:=HO.at_ hx;obtain⟨D,dd,rfl,hdd,hRd⟩:=hP;have c3:=hcell 3 _ rfl;have f3:=HO.ck (j*4+3);have HX:=aa hx;have pW:=aa (o9 wr D dd x.cases rfl (by have:=HC.out x (bP hx);omega) hRd.1);clear hcell hx hRd hdd ju;go_wp2_with fail;refine pW.mono ?_;rintro e w2 ⟨B2,d2,rfl,KE,fN,hb2⟩;have vV:=HO.jl aP hb2;have f3':=vV.ck (j*4+3);have c3':=(hb2.cell (p:=⟨g,j*4+3,none⟩) hg1).trans c3;have hg2:=YB hb2 hg1;have eu:=aa vV;have p3:=aa fN;have bq:=aa (ag HB hb2);have AZ:=aa KE;clear c3 f3 vV fN hb2 KE pW;go_wp2_with fail;go_roundw;case rel =>
    refine⟨j+1,ae,by go_num,ko.Jg eu HX AZ p3.xO.2 (fun b hb=>?_),bq.setCell (p:=⟨g,j*4+3,none⟩) hg0 _⟩;subst hb;rcases p3.2 with⟨h',_⟩|⟨g',cap,cur,hv,_,hh,_⟩
    ·cases h'
    ·injection hv with h1;injection h1 with h1;subst h1
     exact⟨cur,_,hh⟩
   case measure=>simp[intOf];omega
  ·go_wp2_with fail;go_ret;exact⟨_,rfl,B,d,rfl,HO,HB⟩
theorem Rv(A:Option Addr)(n c:Nat)(t:Int):Calls prog 295 #[.slice A n c,t] w fun e w'=>e=.returned (decide (0<=t/\t<n))/\w=w':=by
 by_cases h0:0<=t
 ·go_enter func295,ntmps295;go_wp2;go_ret;exact⟨bS (by simp[h0]),rfl⟩
 ·have d1:decide (0<=t)=false:=bJ h0;have d2:decide (0<=t/\t<n)=false:=bJ (fun h=>h0 h.1);rw[d2];clear h0 d2;go_enter func295,ntmps295;go_wp2;go_ret;exact⟨rfl,rfl⟩
theorem Aa(A:Option Addr)(n c:Nat)(t:Int)(h:0<=t/\t<n):Calls prog 295 #[.slice A n c,t] w fun e w'=>e=.returned true/\w=w':=by have:=Rv w A n c t;rw[dg h]at this;exact this
theorem fX.row{w:World}{xs:List Mo.Wt}(h:fX w A xs)(hx:xs[j]?=some x):∃ad B d,A=some ad/\x.cases.length<=d/\cN w bk B x.cases /\
 w.cell? (ad.add (j*4))=some (.bool x.on)/\w.cell? ⟨(ad.add (j*4)).block,(ad.add (j*4)).off+1,none⟩=some (.int .i64 x.ay)/\w.cell? ⟨(ad.add (j*4)).block,(ad.add (j*4)).off+2,none⟩=some (.int .i64 x.seq)/\w.cell? ⟨(ad.add (j*4)).block,(ad.add (j*4)).off+3,none⟩=some (.slice B x.cases.length d):=by
 obtain⟨ad,x',r,hA,yB,hP,ju,hcell⟩:=jF.at_ ah h (cE hx)
 rw[hx]at yB
 injection yB with yB
 subst yB
 obtain⟨B,d,rfl,hd,hR⟩:=hP
 have c0:=hcell 0 _ rfl
 have c1:=hcell 1 _ rfl
 have c2:=hcell 2 _ rfl
 have c3:=hcell 3 _ rfl
 rw[add_lit _ _ ah]at c1 c2 c3
 exact⟨ad,B,d,hA,hd,hR.1,c0,c1,c2,c3⟩
theorem tz{w:World}{c:Nat}{e:TypeId}{b:Addr}(h:aI w base e m f (.slice (some b) n c) xs):Ty w e b.block:=by exact Uk
theorem ko.put{w:World}{c:Nat}{xs:List Mo.Wt}{y:Mo.Wt}(h:ko w base (.slice g n c) xs)(hj:j<xs.length)(hd:y.cases.length<=d)(hr:cN w bk B y.cases)(hB:∀b,B=some b->y.cases≠[]->Ty w 110 b.block):ko (av w g (j*4) [y.on,y.ay,y.seq,.slice B y.cases.length d]) base (.slice g n c) (xs.set j y):=by
 obtain⟨ys,hg,_⟩:=h.ty
 have:=h.Jf aP hj [y.on,y.ay,y.seq,.slice B y.cases.length d] rfl (by intro u hu;simp at hu;rcases hu with rfl|rfl|rfl|rfl<;>rfl) (gJ.not hg ah ah) (y:=y) ⟨B,d,rfl,hd,hr,fun ad ha hne=>.inr (hB ad ha hne)⟩
 exact this.mono aP fun b hb=>eT _ _ _ hb
theorem rT(A:Option Addr)(c:Nat)(xs:List Mo.Wt)(hn:n=xs.length)(hl:n<=100000)(hr:fX w A xs)(hc:∀x∈xs,x.cases.length<=100000)(hx:xs[j]?=some x)(jN:x.on=true) :
 Calls prog 291 #[.slice A n c,j] w fun e w'=>∃v,e=.returned (.tuple #[v,true])/\Wu (Mo.gL xs j) n w v w':=by
 have oa:=aa (ib w A c xs hn hl hr hc)
 have HN:=aa hn;have HX:=aa hx
 have hlt:j<n:=by rw[hn];exact cE hx
 have Ul:=aa (fun w'=>Aa w' A n c j ae)
 have HR:=aa (fun w' (hb:Below w w w')=>fX.row (hr.jl aP hb) hx)
 obtain⟨ad0,_,_,hA,_⟩:=fX.row hr hx
 subst hA
 clear hn hr hc hx
 go_enter func291,ntmps291
 go_wp2_with fail
 refine oa.mono ?_
 rintro e w1 ⟨v,rfl,A1,c1,rfl,eo,hb1⟩
 have jO:=aa eo;have bj:=aa hb1
 clear eo hb1 oa
 go_wp2_with fail
 refine(Ul _).mono ?_
 rintro e w2 ⟨rfl,rfl⟩
 obtain⟨ad,_,_,hA,_,_,k0,_⟩:=HR.out w1 bj
 injection hA with hA
 subst hA
 rw[jN]at k0
 have hne:xs≠[]:=by have:=HN.out;rintro rfl;simp at this;omega
 obtain⟨g,c',hv,hg0,hg1⟩:=jO.form hne
 injection hv with e1 e2 e3
 have iD:=aa e2
 subst e1 e3
 clear e2 hne
 obtain⟨r,hP,ju,hcell⟩:=jO.at_ HX
 obtain⟨D,dd,rfl,_,_⟩:=hP
 have q0:=hcell 0 _ rfl
 rw[Nat.add_zero]at q0
 have q1:=hcell 1 _ rfl
 have q2:=hcell 2 _ rfl
 have q3:=hcell 3 _ rfl
 have f0:=jO.ck (j*4)
 have f1:=jO.ck (j*4+1)
 have f2:=jO.ck (j*4+2)
 have f3:=jO.ck (j*4+3)
 clear hcell ju jN
 go_wp2_with fail
 go_ret2
 refine⟨_,rfl,_,_,rfl,ko.put (y:=Mo.gK) (B:=none) (d:=0) jO (cE HX) (aS _) (cN.nil _ _ _) (fun b hb=>by cases hb),aw hg0 [false,.int .i64 0,.int .i64 0,.slice none 0 0] _ _ bj⟩
theorem MZ(A:Option Addr)(c:Nat)(xs:List Mo.Wt)(hn:n=xs.length)(hl:n<=100000)(hr:fX w A xs)(hc:∀x∈xs,x.cases.length<=100000)(hx:xs[j]?=some x)(jN:x.on=false)(tk sq:Int)(cs:List Mo.Cs)(D:Option Addr)(dl dd:Nat)(jk:dl=cs.length)(aeb:dl<=100000)(hD:cN w bk D cs) :
 Calls prog 288 #[.slice A n c,j,.agg #[false,tk,sq,.slice D dl dd]] w fun e w'=>∃v,e=.returned (.tuple #[v,true])/\Wu (xs.set j ⟨true,tk,sq,cs⟩) n w v w':=by
 have oa:=aa (ib (w.alloc (.cells #[false,tk,sq,.slice D dl dd] 79)) A c xs hn hl (hr.jl aP (ak (aj w) _)) hc)
 have HN:=aa hn;have HX:=aa hx;have pd:=aa jk
 have hlt:j<n:=by rw[hn];exact cE hx
 have Ul:=aa (fun w'=>Aa w' A n c j ae)
 have HR:=aa (fun w' (hb:Below w w w')=>fX.row (hr.jl aP hb) hx)
 have pW:=aa (fun w' (hb:Below w w w')=>o9 w' D dd cs jk ae (hD.below hb))
 obtain⟨ad0,_,_,hA,_⟩:=fX.row hr hx
 subst hA
 have bG:Hid (Below w w (w.alloc (.cells #[false,tk,sq,.slice D dl dd] 79))):=ak (aj w) _
 have gV:Hid (af (w.alloc (.cells #[false,tk,sq,.slice D dl dd] 79)) w.heap.size 79 #[false,tk,sq,.slice D dl dd]):=af.new _ _ _
 clear hn hr hc hx jk hD
 go_enter func288,ntmps288
 go_wp2_with fail
 refine oa.mono ?_
 rintro e w1 ⟨v,rfl,A1,c1,rfl,eo,hb1⟩
 have jO:=aa eo;have bj:=aa (ag bG hb1);have fh:=aa (gV.ag hb1)
 clear eo hb1 oa
 go_wp2_with fail
 refine(Ul _).mono ?_
 rintro e w2 ⟨rfl,rfl⟩
 obtain⟨ad,_,_,hA,_,_,k0,_⟩:=HR.out w1 bj
 injection hA with hA
 subst hA
 rw[jN]at k0
 obtain⟨fU,hfk,km⟩:=af.aK fh
 clear jN
 go_wp2_with fail
 refine(pW _ bj).mono ?_
 rintro e w2 ⟨B2,d2,rfl,KE,fN,hb2⟩
 have vV:=jO.jl aP hb2
 have jv:=aa (fh.ag hb2);have bq:=aa (ag bj hb2);have p3:=aa fN;have AZ:=aa KE
 have eu:=aa vV
 clear k0 fU hfk km fN hb2 KE vV
 have hne:xs≠[]:=by have:=HN.out;rintro rfl;simp at this;omega
 obtain⟨g,c',hv,hg0,hg1⟩:=eu.form hne
 injection hv with e1 e2 e3
 have iD:=aa e2
 subst e1 e3
 clear e2 hne
 obtain⟨r,hP,ju,hcell⟩:=eu.at_ HX
 obtain⟨D,dd,rfl,_,_⟩:=hP
 have q0:=hcell 0 _ rfl
 rw[Nat.add_zero]at q0
 have q1:=hcell 1 _ rfl
 have q2:=hcell 2 _ rfl
 have q3:=hcell 3 _ rfl
 have f0:=eu.ck (j*4)
 have f1:=eu.ck (j*4+1)
 have f2:=eu.ck (j*4+2)
 have f3:=eu.ck (j*4+3)
 have Jh:w.heap.size<g:=by simp at hg0;omega
 obtain⟨fU,hfk,km⟩:=af.aK jv
 clear hcell ju
 go_wp2_with fail
 go_ret2
 have hS:¬gJ w2 w.heap.size:=gJ.not jv ah ah
 have hM:Sm (gJ w2) w2 ((w2.setCell ⟨w.heap.size,0,none⟩ true).setCell ⟨w.heap.size,3,none⟩ (.slice B2 dl d2)):=fun b hb=>(dp _ _ _ _ (fun he=>by have he:b=w.heap.size:=he;subst he;exact hS hb)).trans (dp _ _ _ _ (fun he=>by have he:b=w.heap.size:=he;subst he;exact hS hb))
 have yK:ko ((w2.setCell ⟨w.heap.size,0,none⟩ true).setCell ⟨w.heap.size,3,none⟩ (.slice B2 dl d2)) _ (.slice g n c1) xs:=(aH.move aP eu hM (fun g' tN=>by
  have tN:g=g':=by simpa[Value.ownBlock]using tN
  subst tN
  exact(dp _ _ _ _ (by show g≠w.heap.size;omega)).trans (dp _ _ _ _ (by show g≠w.heap.size;omega)))).mono aP (fun b hb=>(hb.bb _ _).bb _ _)
 have jk:=pd.out
 subst jk
 have hF:cN ((w2.setCell ⟨w.heap.size,0,none⟩ true).setCell ⟨w.heap.size,3,none⟩ (.slice B2 cs.length d2)) bk B2 cs:=(aI.xO (f:=bk) (bB (bB p3 jv ah 0 true) (jv.bb 0 true) ah 3 (.slice B2 cs.length d2))).2
 refine⟨_,rfl,_,_,rfl,(ko.put (y:=⟨true,tk,sq,cs⟩) yK (cE HX) AZ hF (fun b hb _=>?_)).weak aF,aw ae [true,tk,sq,.slice B2 cs.length d2] _ _ ((bq.setCell (p:=⟨w.heap.size,0,none⟩) (aS _) _).setCell (p:=⟨w.heap.size,3,none⟩) (aS _) _)⟩
 subst hb
 exact((tz p3).bb _ _).bb _ _
end
def Um(k:Mo.Cs):Value:=.agg #[k.1,k.2.1,k.2.2]
def Un(i:Int)(w:World)(e:Ending)(w':World):Prop:=e=.returned i/\Below w w w'
section
variable(w:World)
theorem Rw(a b:Nat)(dir hd:Int)(ha:w.cell? ⟨a,0,none⟩=some dir)(hb:w.cell? ⟨b,0,none⟩=some hd)(ha1:a<w.heap.size)(hb1:b<w.heap.size)(k:Mo.Cs) :
 Calls prog 309 #[Um k,.pointer a,.pointer b] w (tX (k.1==dir && k.2.1==hd) w):=by
 unfold Um
 obtain⟨k1,k2,k3⟩:=k
 dsimp only
 rcases h:(k1==dir)with _|_
 ·go_enter func309,ntmps309;exact Q9
 ·go_enter func309,ntmps309;go_wp2;go_ret;exact⟨bS aF,ak (aj w) _⟩
theorem Wv(a:Nat)(hd:Int)(ha:w.cell? ⟨a,0,none⟩=some hd)(ha1:a<w.heap.size)(k:Mo.Cs) :
 Calls prog 300 #[Um k,.pointer a] w (tX (k.2.1==hd) w):=by
 unfold Um
 go_enter func300,ntmps300
 exact Q9
theorem Ww(a:Nat)(hd:Int)(ha:w.cell? ⟨a,0,none⟩=some hd)(ha1:a<w.heap.size)(k:Mo.Cs) :
 Calls prog 297 #[Um k,.pointer a] w (tX (k.2.1==hd) w):=by
 unfold Um
 go_enter func297,ntmps297
 exact Q9
theorem wK(f:FuncId)(M0:Array Value)(a b:Nat)(hf:(f=309/\M0=#[.pointer a,.pointer b])\/(f=300/\M0=#[.pointer a])\/(f=297/\M0=#[.pointer a]))(p:Mo.Cs->Bool)(HC:∀(k:Mo.Cs) (wx:World),Below w w wx->Calls prog f (#[Um k]++M0) wx (tX (p k) wx))(A:Option Addr)(m:Nat)(xs:List Mo.Cs)(n:Nat)(hn:n=xs.length)(hr:cN w bk A xs)(hl:n<=100000) :
 Calls prog 296 #[.slice A n m,.func (.func f) #[] M0] w (Un (iL p xs) w):=by
 have HN:=aa hn;have HR:=aa hr
 have HF:=aa HC
 clear hn hr HC
 unfold Um at HF
 rcases hf with⟨rfl,rfl⟩|⟨rfl,rfl⟩|⟨rfl,rfl⟩
 all_goals
  go_enter func296,ntmps296;go_wp2_with fail;go_loopw[5,8] (fun _ i wr=>∃k:Nat,k<=n/\i=k/\Hid (Below w w wr)/\Hid (∀(j:Nat) (y),j<k->xs[j]?=some y->p y=false)) (fun _ i _=>n-(intOf i).toNat);case atStart=>exact⟨0,aY _,rfl,aj w,fun j _ h=>absurd h (Nat.not_lt_zero _)⟩
  case round =>
   obtain⟨k,hk,rfl,HB,HX⟩:=hrel;by_cases hlt:k<n
   ·obtain⟨ad,z,hA,hz,hcell⟩:=cN.at_ eZ ah (HR.below HB) (i:=k) (by rw[<-HN.out];exact hlt);have c0:=hcell 0 _ rfl;have c1:=hcell 1 _ rfl;have c2:=hcell 2 _ rfl;simp only[add_zero]at c0;rw[add_lit _ _ ah]at c1 c2;subst hA;have HZ:=aa hz;clear hz hcell;have HC:=aa (HF z wr HB);rcases hp:p z with _|_
    ·have HP:=aa hp;rw[hp]at HC;clear hp;go_wp2_with fail;refine HC.mono ?_;rintro e w1 ⟨rfl,hb1⟩;have bj:=aa (ag HB hb1);clear hb1 c0 c1 c2;go_wp2_with fail;go_roundw;case rel=>exact⟨k+1,ae,by go_num,bj,rh HZ HX HP⟩
     case measure=>simp[intOf];omega
    ·have HP:=aa hp;rw[hp]at HC;clear hp;go_wp2_with fail;refine HC.mono ?_;rintro e w1 ⟨rfl,hb1⟩;have bj:=aa (ag HB hb1);clear hb1 c0 c1 c2;go_wp2_with fail;go_ret;rw[zG HZ.out HX.out HP.out];exact⟨rfl,bj⟩
   ·exact YD
end
def Cj(dir hd:Int)(k:Mo.Cs):Bool:=k.1==dir && k.2.1==hd
def Ji(x:Mo.Wt)(dir hd:Int):Int:=max (iL (Cj dir hd) x.cases) 0
theorem Rx(h:Mo.mP x dir hd=some i):Ji x dir hd=i:=by
 unfold Mo.mP at h;split at h
 ·unfold Ji iL;have:x.cases.findIdx? (Cj dir hd)=some i:=h;rw[this];dsimp only;omega
 ·cases h
theorem Wx(x:Mo.Wt)(dir hd:Int):(Mo.mP x dir hd).isSome=(decide (0<=iL (Cj dir hd) x.cases) && x.on):=by
 unfold Mo.mP iL;cases x.on
 ·simp
 ·rw[au rfl,Bool.and_true];have e:x.cases.findIdx? (fun c=>c.1==dir && c.2.1==hd)=x.cases.findIdx? (Cj dir hd):=rfl;rw[e];cases x.cases.findIdx? (Cj dir hd)with
  |none=>rfl
  |some i=>simp
theorem Wy(p:α->Bool)(xs:List α):-1<=iL p xs/\iL p xs<=xs.length:=by
 unfold iL;cases h:xs.findIdx? p with
 |none=>dsimp only;omega
 |some i=>rw[List.findIdx?_eq_some_iff_getElem]at h;obtain⟨h1,_⟩:=h;dsimp only;omega
section
variable(w:World)
theorem Ry(x:Mo.Wt)(B:Option Addr)(bl d:Nat)(hbl:bl=x.cases.length)(hl:bl<=100000)(hr:cN w bk B x.cases)(dir hd:Int) :
 Calls prog 304 #[.agg #[x.on,x.ay,x.seq,.slice B bl d],dir,hd] w fun e w'=>e=.returned (.tuple #[(Ji x dir hd),.bool (Mo.mP x dir hd).isSome])/\Below w w w':=by
 have HI:=aa (fun wx (hb:Below w w wx) HC=>wK wx 309 #[.pointer (some ⟨w.heap.size+1,0,none⟩),.pointer (some ⟨w.heap.size+1+1,0,none⟩)] (w.heap.size+1) (w.heap.size+1+1) (.inl ⟨rfl,rfl⟩) (Cj dir hd) HC B d x.cases bl hbl (hr.below hb) hl)
 have gu:=aa (fun wx h1 h2 h3 h4 k=>Rw wx (w.heap.size+1) (w.heap.size+1+1) dir hd h1 h2 h3 h4 k)
 have HIS:=aa (Wx x dir hd)
 have hle:=Wy (Cj dir hd) x.cases
 unfold Ji
 generalize(Mo.mP x dir hd).isSome=r at *
 generalize iL (Cj dir hd) x.cases=i at *
 obtain⟨N,hN⟩:=aD (max i 0)
 rw[<-hN]
 have HM:=aa hN
 clear hN
 generalize x.on=on at *
 generalize x.ay=tk at *
 generalize x.seq=sq at *
 clear hr hbl
 have fI:Below w w (((w.alloc (.cells #[on,tk,sq,.slice B bl d] 79)).alloc (.cells #[dir] 3)).alloc (.cells #[hd] 3)):=ak (ak (ak (aj w) _) _) _
 have GD:af (((w.alloc (.cells #[on,tk,sq,.slice B bl d] 79)).alloc (.cells #[dir] 3)).alloc (.cells #[hd] 3)) w.heap.size 79 _:=((af.new _ _ _).alloc _).alloc _
 have tV:af (((w.alloc (.cells #[on,tk,sq,.slice B bl d] 79)).alloc (.cells #[dir] 3)).alloc (.cells #[hd] 3)) (w.heap.size+1) 3 _:=(af.newAt _ _ _ aF).alloc _
 have hK2:af (((w.alloc (.cells #[on,tk,sq,.slice B bl d] 79)).alloc (.cells #[dir] 3)).alloc (.cells #[hd] 3)) (w.heap.size+1+1) 3 _:=af.newAt _ _ _ aF
 go_enter func304,ntmps304
 go_wp2_with fail
 refine(HI _ fI ?hc).mono ?_
 case hc=>exact fun k wx hb=>gu wx ((tV.ag hb).cell 0) ((hK2.ag hb).cell 0) (tV.ag hb).lt (hK2.ag hb).lt k
 rintro e w1 ⟨rfl,hb1⟩
 have hK3:=GD.ag hb1
 obtain⟨fU,-,km⟩:=af.aK hK3
 have bj:=aa (ag fI hb1)
 clear hb1 GD tV hK2 hK3 fI HI gu
 by_cases h0:0<=i
 ·have d1:decide (0<=i)=true:=dg h0;have hr:r=on:=by rw[HIS.out];simp[h0]
  subst hr;have a0:¬i<0:=ae;go_wp2_with fail;go_region;all_goals
   go_wp2_with fail;go_ret2;have hm:N=i:=by have:=HM.out;omega
   subst hm;exact⟨rfl,bj.drew⟩
 ·have d1:decide (0<=i)=false:=bJ h0;have hr:r=false:=by rw[HIS.out];simp[h0]
  subst hr;have a0:i<0:=ae;go_wp2_with fail;go_region;all_goals
   go_wp2_with fail;go_ret2;have hm:N=0:=by have:=HM.out;omega
   subst hm;exact⟨rfl,bj.drew⟩
def iX(l:List Mo.Wt)(dir hd:Int)(k:Nat)(T W:Int)(ok:Bool):Prop:=ok=(Mo.eU l dir hd k).isSome/\∀t i,Mo.eU l dir hd k=some (t,i)->T=t/\W=i/\t<k
theorem iX.none_{l:List Mo.Wt}(h:iX l dir hd k T W ok)(hx:l[k]?=some x)(hn:(Mo.mP x dir hd).isSome=false):iX l dir hd (k+1) T W ok:=by
 have e:Mo.eU l dir hd (k+1)=Mo.eU l dir hd k:=by
  show(match l[k]? with|none=>_|some w=>_)=_;rw[hx];dsimp only;cases hh:Mo.mP x dir hd with
  |none=>rfl
  |some i=>rw[hh]at hn;cases hn
 unfold iX;rw[e];exact⟨h.1,fun t i hq=>by obtain⟨a,b,c⟩:=h.2 t i hq;exact⟨a,b,ae⟩⟩
theorem iX.aaL{l:List Mo.Wt}(h:iX l dir hd k T W ok)(hx:l[k]?=some x)(hs:(Mo.mP x dir hd).isSome=true)(hlt:ok=true->∀t:Nat,T=t->x.ay<(l.getD t ⟨false,0,0,[]⟩).ay):iX l dir hd (k+1) k (Ji x dir hd) true:=by
 obtain⟨i,hi⟩:=Option.isSome_iff_exists.1 hs
 have e:Mo.eU l dir hd (k+1)=some (k,i):=by
  show(match l[k]? with|none=>_|some w=>_)=_;rw[hx];dsimp only;rw[hi];dsimp only;cases hh:Mo.eU l dir hd k with
  |none=>rfl
  |some p=>obtain⟨t,j⟩:=p;dsimp only;have h1:=h.1;rw[hh]at h1;rw[au (hlt h1 t (h.2 t j hh).1)]
 unfold iX
 rw[e]
 refine⟨rfl,fun t j hq=>?_⟩
 injection hq with hq;injection hq with h1 h2
 subst h1 h2
 exact⟨rfl,Rx hi,ae⟩
theorem iX.keep{l:List Mo.Wt}(h:iX l dir hd k T W true)(hx:l[k]?=some x)(AX:∀t:Nat,T=t->¬x.ay<(l.getD t ⟨false,0,0,[]⟩).ay):iX l dir hd (k+1) T W true:=by
 cases hh:Mo.mP x dir hd with
 |none=>exact h.none_ hx (by rw[hh];rfl)
 |some i =>
  obtain⟨p,hp⟩:=Option.isSome_iff_exists.1 h.1.symm;obtain⟨t,j⟩:=p;have e:Mo.eU l dir hd (k+1)=some (t,j):=by show(match l[k]? with|none=>_|some w=>_)=_;rw[hx];dsimp only;rw[hh];dsimp only;rw[hp];dsimp only;rw[ai (AX t (h.2 t j hp).1)]
  unfold iX;rw[e];refine⟨rfl,fun t' j' hq=>?_⟩;injection hq with hq;injection hq with h1 h2
  subst h1 h2;obtain⟨a,b,c⟩:=h.2 t j hp;exact⟨a,b,ae⟩
def Wz(l:List Mo.Wt)(dir hd:Int)(w:World)(e:Ending)(w':World):Prop:=∃T W ok,e=.returned (.tuple #[.int .i64 T,.int .i64 W,.bool ok])/\iX l dir hd l.length T W ok/\Below w.heap.size w w'
theorem jQ(A:Option Addr)(c:Nat)(xs:List Mo.Wt)(hn:n=xs.length)(hl:n<=100000)(hr:fX w A xs)(hc:∀x∈xs,x.cases.length<=100000)(dir hd:Int) :
 Calls prog 293 #[.slice A n c,dir,hd] w (Wz xs dir hd w):=by
 have HN:=aa hn;have HC:=aa hc
 have HR:=aa (fun w' (hb:Below w w w') (j:Nat) (x:Mo.Wt) hx=>fX.row (hr.jl aP hb) (j:=j) (x:=x) hx)
 clear hn hr hc
 go_enter func293,ntmps293
 go_wp2_with fail
 go_loopw[6,7,8,15] (fun tt ww ok i wr=>∃(k:Nat) (T W:Int) (b:Bool),k<=n/\i=k/\tt=T/\ww=W/\ok=b/\Hid (iX xs dir hd k T W b)/\Hid (Below w w wr)) (fun _ _ _ i _=>n-(intOf i).toNat)
 case atStart=>exact⟨0,0,0,false,aY _,rfl,rfl,rfl,rfl,⟨rfl,fun t i h=>by cases h⟩,aj w⟩
 case round =>
  obtain⟨k,T,W,ok,hk,rfl,rfl,rfl,rfl,HF,HB⟩:=hrel;by_cases hlt:k<n
  ·obtain⟨x,hx⟩:∃x,xs[k]?=some x:=⟨_,cD (by rw[<-HN.out];exact hlt)⟩
   obtain⟨ad,B,d,hA,hd',hRd,c0,c1,c2,c3⟩:=HR.out wr HB k x hx;have HX:=aa hx;have HH:=aa (fun wy (hb:Below wr wr wy)=>Ry wy x B x.cases.length d rfl (by have:=HC.out x (bP hx);omega) (hRd.below hb) dir hd);subst hA;clear hx hd' hRd;obtain⟨bl,hbl⟩:=aD x.cases.length;rw[<-hbl]at HH c3;clear hbl;obtain⟨I,hI⟩:=aD (Ji x dir hd);obtain⟨is,his⟩:=aD ((Mo.mP x dir hd).isSome);rw[<-hI, <-his]at HH;have HII:=aa hI;have HIS:=aa his.symm;clear hI his;go_wp2_with fail;refine(HH _ (ak (aj wr) _)).mono ?_;rintro e w2 ⟨rfl,hb2⟩;have hK:=(af.new wr 79 #[x.on,x.ay,x.seq,.slice B bl d]).ag hb2;obtain⟨fU,-,km⟩:=af.aK hK;have bq:=aa (ag (ag HB (ak (aj wr) (.cells #[x.on,x.ay,x.seq,.slice B bl d] 79))) hb2);clear hb2 hK c0 c1 c2 c3;cases is with
   |false =>
    go_wp2_with fail;go_quiet(fail);go_wp2_with fail;go_roundw;case rel=>exact⟨k+1,T,W,ok,ae,by go_num,rfl,rfl,rfl,HF.none_ HX HIS,bO bq _⟩
    case measure=>simp[intOf];omega
   |true =>
    cases ok with
    |false =>
     go_wp2_with fail;go_quiet(fail);go_wp2_with fail;go_roundw;case rel=>exact⟨k+1,k,I,true,ae,by go_num,rfl,rfl,rfl,HII.out▸HF.aaL HX HIS (fun h=>by cases h),bO bq _⟩
     case measure=>simp[intOf];omega
    |true =>
     obtain⟨⟨t,i0⟩,hti⟩:=Option.isSome_iff_exists.1 HF.1.symm;obtain⟨hT,hW,Br⟩:=HF.2 t i0 hti;obtain⟨y,hy⟩:∃y,xs[t]?=some y:=⟨_,cD (by rw[<-HN.out];omega)⟩
     obtain⟨ad',_,_,hA',_,_,_,q1,_⟩:=HR.out w2 bq t y hy;injection hA' with hA'
     subst hA' hT;have HTI:=aa hti;have HY:Hid ((xs.getD t ⟨false,0,0,[]⟩)=y):=by unfold Hid;rw[eR,hy];rfl
     clear hti hy hW;by_cases xR:x.ay<y.ay
     ·have d1:decide (x.ay<y.ay)=true:=dg xR;have oW:Hid (∀t':Nat,(t:Int)=t'->x.ay<(xs.getD t' ⟨false,0,0,[]⟩).ay):=by
       intro t' ht;have e:t'=t:=ae;rw[e,HY.out];exact xR
      clear xR;go_wp2_with fail;go_quiet(fail);go_wp2_with fail;go_roundw;case rel=>exact⟨k+1,k,I,true,ae,by go_num,rfl,rfl,rfl,HII.out▸HF.aaL HX HIS (fun _=>oW),bO bq _⟩
      case measure=>simp[intOf];omega
     ·have d1:decide (x.ay<y.ay)=false:=bJ xR;have oW:Hid (∀t':Nat,(t:Int)=t'->¬x.ay<(xs.getD t' ⟨false,0,0,[]⟩).ay):=by
       intro t' ht;have e:t'=t:=ae;rw[e,HY.out];exact xR
      clear xR;go_wp2_with fail;go_quiet(fail);go_wp2_with fail;go_roundw;case rel=>exact⟨k+1,t,W,true,ae,by go_num,rfl,rfl,rfl,HF.keep HX (fun t' ht=>Int.not_lt.2 (oW t' ht)),bO bq _⟩
      case measure=>simp[intOf];omega
  ·have qp:k=xs.length:=by have:=HN.out;omega
   have HKN:=aa qp;clear qp;go_wp2_with fail;refine bodyPost_ret (v:=.tuple #[T,W,ok]) ?_ rfl ?_
   ·simp[results,results293,go_sem]
   ·have hf:=HF.out;rw[HKN.out]at hf;exact⟨T,W,ok,rfl,hf,HB⟩
end
theorem Jj(lt:α->α->Bool)(x:α):∀(Q P:List α),(∀q∈Q,lt x q=true)->Mo.iz lt x (Q++P)=Q++Mo.iz lt x P:=by
 intro Q;induction Q with
 |nil=>intro P _;rfl
 |cons q Q ih=>intro P h;show(if lt x q=true then q::Mo.iz lt x (Q++P)else x::q::(Q++P))=_;rw[au (h q List.mem_cons_self),ih P (fun y hy=>h y (List.mem_cons_of_mem _ hy))];rfl
theorem Jk(lt:α->α->Bool)(x:α)(P:List α)(h:∀y P',P=y::P'->lt x y=false):Mo.iz lt x P=x::P:=by
 rcases P with _|⟨y,P⟩
 ·rfl
 ·show(if lt x y=true then _ else _)=_;rw[ai (by rw[h y P rfl];decide)]
theorem EG(lt:α->α->Bool)(l:List α)(x:α):Mo.dF lt (l++[x])=(Mo.iz lt x (Mo.dF lt l).reverse).reverse:=by unfold Mo.dF;rw[List.foldl_append,List.reverse_reverse];rfl
theorem EH(lt:α->α->Bool)(l P Q:List α)(x:α)(h:Mo.dF lt l=P++Q)(hQ:∀q∈Q,lt x q=true)(hP:∀y P',P=P'++[y]->lt x y=false):Mo.dF lt (l++[x])=P++x::Q:=by rw[EG,h,List.reverse_append,Jj lt x _ _ (fun q hq=>hQ q (List.mem_reverse.1 hq)),Jk lt x P.reverse (fun y P' hp=>hP y P'.reverse (by rw[<-List.reverse_reverse P,hp];simp))];simp
theorem vM(lt:α->α->Bool)(x:α):∀l:List α,(Mo.iz lt x l).length=l.length+1:=by
 intro l;induction l with
 |nil=>rfl
 |cons y l ih =>
  show(if lt x y=true then y::Mo.iz lt x l else x::y::l).length=_;split
  ·simp[ih]
  ·simp
theorem wL(lt:α->α->Bool)(x z:α):∀l:List α,z∈Mo.iz lt x l->z=x\/z∈l:=by
 intro l;induction l with
 |nil=>intro h;exact .inl (List.mem_singleton.1 h)
 |cons y l ih =>
  intro h;have h:z∈(if lt x y=true then y::Mo.iz lt x l else x::y::l):=h;split at h
  ·rcases List.mem_cons.1 h with h|h
   ·exact .inr (h▸List.mem_cons_self)
   ·rcases ih h with h|h
    ·exact .inl h
    ·exact .inr (List.mem_cons_of_mem _ h)
  ·rcases List.mem_cons.1 h with h|h
   ·exact .inl h
   ·exact .inr h
theorem yU(lt:α->α->Bool):∀(l acc:List α),(l.foldl (fun acc x=>Mo.iz lt x acc) acc).length=l.length+acc.length/\∀z,z∈l.foldl (fun acc x=>Mo.iz lt x acc) acc->z∈l\/z∈acc:=by
 intro l;induction l with
 |nil=>intro acc;exact⟨aF,fun z h=>.inr h⟩
 |cons x l ih =>
  intro acc;obtain⟨h1,h2⟩:=ih (Mo.iz lt x acc);refine⟨by rw[List.foldl_cons,h1,vM];simp;omega,fun z hz=>?_⟩;rcases h2 z hz with h|h
  ·exact .inl (List.mem_cons_of_mem _ h)
  ·rcases wL lt x z acc h with h|h
   ·exact .inl (h▸List.mem_cons_self)
   ·exact .inr h
theorem jb(lt:α->α->Bool)(l:List α):(Mo.dF lt l).length=l.length:=by unfold Mo.dF;rw[List.length_reverse,(yU lt l []).1];simp
theorem nc(lt:α->α->Bool)(l:List α)(h:z∈Mo.dF lt l):z∈l:=by
 unfold Mo.dF at h;rcases(yU lt l []).2 z (List.mem_reverse.1 h)with h|h
 ·exact h
 ·cases h
structure Jl (w wr:World) (base g n c:Nat) (L:List Int):Prop where
 own:aL wr base 3 .i64 (.slice (some ⟨g,0,none⟩) n c) L
 rest:∀b,b<w.heap.size->b≠g->wr.heap[b]?=w.heap[b]?
 ext:Below base w wr
 size:w.heap.size<=wr.heap.size
 low:base<=g
 lt:g<w.heap.size
theorem Jl.drew{c:Nat}(h:Jl w wr base g n c L)(q:Nat):Jl w (wr.drewN q) base g n c L:=⟨aL.ag h.own (bO (aj wr) q),h.rest,bO h.ext q,h.size,h.low,h.lt⟩
theorem Jl.bb{c:Nat}(h:Jl w wr base g n c L)(i:Nat)(z:Int):Jl w (wr.setCell ⟨g,i,none⟩ (.int .i64 z)) base g n c (L.set i z):=⟨h.own.stored i z,fun b hb hne=>(dp _ _ _ _ hne).trans (h.rest b hb hne),h.ext.setCell (p:=⟨g,i,none⟩) h.low _,by simp[World.setCell];exact h.size,h.low,h.lt⟩
structure Jm {α:Type} (lt:α->α->Bool) (D:List α) (k j:Nat) (L:List α):Prop where
 ex:∃(P Q:List α) (x:α),D[k]?=some x/\Mo.dF lt (D.take k)=P++Q/\P.length=j/\(∀q∈Q,lt x q=true)/\L=P++x::(Q++D.drop (k+1))
theorem Jm.start{lt:α->α->Bool}{D:List α}(hk:k<D.length):Jm lt D k k (Mo.dF lt (D.take k)++D.drop k):=by refine⟨Mo.dF lt (D.take k),[],D[k],cD hk,aF,by rw[jb,eW];omega,aF,?_⟩;rw[List.drop_eq_getElem_cons hk];rfl
theorem Jm.read{lt:α->α->Bool}{D L:List α}(h:Jm lt D k (j+1) L):∃x y,D[k]?=some x/\L[j+1]?=some x/\L[j]?=some y/\y∈D:=by
 obtain⟨P,Q,x,h1,h2,h3,h4,h5⟩:=h.ex;have hy:P[j]?=some P[j]:=cD ae;refine⟨x,P[j],h1,?_,?_,?_⟩
 ·rw[h5,List.getElem?_append_right ae,h3,Nat.sub_self];rfl
 ·rw[h5,List.getElem?_append_left ae];exact hy
 ·have:P[j]∈Mo.dF lt (D.take k):=by rw[h2];exact List.mem_append_left _ (List.getElem_mem _)
  exact List.mem_of_mem_take (nc lt _ this)
theorem Jm.down{lt:α->α->Bool}{D L:List α}{x y:α}(h:Jm lt D k (j+1) L)(hx:L[j+1]?=some x)(hy:L[j]?=some y)(hlt:lt x y=true):Jm lt D k j ((L.set (j+1) y).set j x):=by
 obtain⟨P,Q,x',h1,h2,h3,h4,h5⟩:=h.ex;obtain⟨P',z,rfl⟩:∃P' z,P=P'++[z]:=⟨P.dropLast,P.getLast (by intro h0;rw[h0]at h3;simp at h3),(List.dropLast_concat_getLast _).symm⟩
 have hP:P'.length=j:=by simp at h3;exact h3
 subst hP;have e1:L[P'.length+1]?=some x':=by rw[h5,List.getElem?_append_right aF];simp
 have e2:L[P'.length]?=some z:=by rw[h5,List.append_assoc,List.getElem?_append_right (aS _)];simp
 rw[hx]at e1;rw[hy]at e2;injection e1 with e1
 injection e2 with e2
 subst e1 e2;refine⟨P',y::Q,x,h1,by rw[h2];simp,rfl,fun q hq=>?_,?_⟩
 ·rcases List.mem_cons.1 hq with rfl|hq
  ·exact hlt
  ·exact h4 q hq
 ·rw[h5];simp
theorem Jm.stop{lt:α->α->Bool}{D L:List α}(h:Jm lt D k j L)(hs:j=0\/∃x y,0<j/\L[j]?=some x/\L[j-1]?=some y/\lt x y=false):L=Mo.dF lt (D.take (k+1))++D.drop (k+1):=by
 obtain⟨P,Q,x,h1,h2,h3,h4,h5⟩:=h.ex;have e:D.take (k+1)=D.take k++[x]:=fz h1;rw[e,EH lt (D.take k) P Q x h2 h4 ?_,h5]
 ·simp
 ·intro y P' hP;rcases hs with hs|⟨x',y',hj,yB,hy',hlt⟩
  ·rw[hs]at h3;rw[hP]at h3;simp at h3
  ·have hl:P'.length+1=j:=by rw[hP]at h3;simpa using h3
   have e1:L[j]?=some x:=by rw[h5,List.getElem?_append_right ae,h3,Nat.sub_self];rfl
   have e2:L[j-1]?=some y:=by rw[h5,hP,List.append_assoc,List.getElem?_append_right ae];simp[show j-1-P'.length=0 by omega]
   rw[yB]at e1;rw[hy']at e2;injection e1 with e1
   injection e2 with e2
   rw[<-e1, <-e2];exact hlt
def M4(P:Program)(f:FuncId)(cap:Nat)(cv:Int->Int->Int)(D:List Int)(w:World)(g:Nat):Prop :=∀(wx:World),(∀b,b<w.heap.size->b≠g->wx.heap[b]?=w.heap[b]?)->∀x y,x∈D->y∈D->Calls P f #[.int .i64 x,.int .i64 y,.pointer (some ⟨cap,0,none⟩)] wx fun e w'=>e=.returned (.int .i64 (cv x y))/\iH wx w'
def M5(w:World)(base g n c:Nat)(L:List Int)(e:Ending)(w':World):Prop:=e=.returned (.tuple #[])/\Jl w w' base g n c L
section
variable(w:World)
theorem Jn(cap:Nat)(cv:Int->Int->Int){c:Nat}(D:List Int)(h:Jl w w base g n c D)(hl:n<=100000)(HC:M4 prog 302 cap cv D w g) :
 Calls prog 310 #[.slice (some ⟨g,0,none⟩) n c,.int .i64 0,.int .i64 n,.func (.func 302) #[] #[.pointer (some ⟨cap,0,none⟩)]] w (M5 w base g n c (Mo.dF (fun a b=>decide (cv a b<0)) D)):=by
 have HCM:=aa HC
 have HN:Hid (n=D.length):=h.own.cap.1
 have H0:=aa h
 obtain⟨lt,hlt⟩:=aD (fun a b=>decide (cv a b<0))
 rw[<-hlt]
 have oW:=aa hlt
 clear HC h hlt
 go_enter func310,ntmps310
 go_wp2_with fail
 go_loopw[8] (fun i wr=>∃k:Nat,1<=k/\k<=n+1/\i=.int .i64 k/\Hid (Jl w wr base g n c (Mo.dF lt (D.take k)++D.drop k))) (fun i _=>n+1-(intOf i).toNat)
 case atStart =>
  refine⟨1,aS _,ae,rfl,?_⟩;have:Mo.dF lt (D.take 1)++D.drop 1=D:=by
   rcases D with _|⟨x,D⟩
   ·rfl
   ·rfl
  unfold Hid;rw[this];exact H0.out
 case round =>
  obtain⟨k,gR,hk,rfl,HS⟩:=hrel;by_cases hlt:k<n
  ·go_wp2_with fail;obtain⟨wo,hwo⟩:∃wo:World,wo=wr:=⟨_,rfl⟩
   subst hwo;go_loopw[9] (fun j wr=>∃(m:Nat) (L:List Int),m<=k/\j=.int .i64 m/\Hid (Jm lt D k m L)/\Hid (Jl w wr base g n c L)) (fun j _=>(intOf j).toNat);case atStart=>exact⟨k,_,aS _,rfl,Jm.start (by rw[<-HN.out];exact hlt),HS⟩
   case round =>
    obtain⟨m,L,hm,rfl,HI,HL⟩:=hrel;rcases m with _|m
    ·go_wp2_with fail;go_quiet(fail);go_wp2_with fail;go_roundw;case rel =>
      refine⟨k+1,ae,ae,by go_num,?_⟩;rw[<-HI.out.stop (.inl rfl)];exact HL.drew _
     case measure=>simp[intOf];omega
    ·obtain⟨x,y,hxD,hx,hy,hyD⟩:=HI.read;have aT:=aL.cell HL.own hx;have tA:=aL.cell HL.own hy;have kB:=aL.frozen HL.own (m+1);have hfy:=aL.frozen HL.own m;have Dl:=bF HL.lt HL.size;have e1:IntKind.i64.wrap ((m:Int)+1-1)=m:=by rw[bK _ ae];omega
     have HC:=aa (HCM);unfold M4 at HC;have Lq:m+1<n:=ae;have HX:=aa hx;have HY:=aa hy;have HXD:=aa (bP hxD);have HYD:=aa hyD;clear hxD hx hy hyD;have t1:(0:Int)<=(m:Int)+1:=ae;have t2:((m:Int)+1).toNat=m+1:=ae;have t3:(m:Int)+1<(n:Int):=ae;have e2:IntKind.i64.wrap (m:Int)=m:=bK _ ae;have t4:(m:Int)<(n:Int):=ae;have t5:(0:Int)<=(m:Int):=ae;by_cases hcv:cv x y<0
     ·have d1:decide (cv x y<0)=true:=dg hcv;have WA:Hid (lt x y=true):=by unfold Hid;rw[oW.out];exact d1
      clear hcv;go_wp2_with fail;go_quiet((go_at_call 302;exact iH.quiet (HC _ (HL.drew _).rest x y HXD HYD)));go_wp2_with fail;go_region;all_goals
       go_wp2_with fail;go_roundw;case rel=>exact⟨m,_,ae,rfl,HI.down HX HY WA,((HL.drew _).bb (m+1) y).bb m x⟩
       case measure=>simp[intOf]
     ·have d1:decide (cv x y<0)=false:=bJ hcv;have WA:Hid (lt x y=false):=by unfold Hid;rw[oW.out];exact d1
      clear hcv;go_wp2_with fail;go_quiet((go_at_call 302;exact iH.quiet (HC _ (HL.drew _).rest x y HXD HYD)));go_wp2_with fail;go_roundw;case rel=>refine⟨k+1,ae,ae,by go_num,?_⟩;rw[<-HI.out.stop (.inr ⟨x,y,Nat.succ_pos m,HX.out,HY.out,WA.out⟩)];exact HL.drew _
      case measure=>simp[intOf];omega
  ·exact Uo
theorem EI(cap:Nat)(cv:Int->Int->Int){c:Nat}(D:List Int)(h:Jl w w base g n c D)(hl:n<=19)(HC:M4 prog 302 cap cv D w g) :
 Calls prog 307 #[.slice (some ⟨g,0,none⟩) n c,.int .i64 n,.func (.func 302) #[] #[.pointer (some ⟨cap,0,none⟩)]] w (M5 w base g n c (Mo.dF (fun a b=>decide (cv a b<0)) D)):=by
 have HI:=aa (Jn w cap cv D h ae HC)
 clear HC h
 have a1:¬(20:Int)<=n:=ae
 have a2:¬(20:Int)<n:=ae
 go_enter func307,ntmps307
 exact aaM
theorem M6(cap:Nat)(cv:Int->Int->Int){c:Nat}(D:List Int)(h:Jl w w base g n c D)(hl:n<=19)(HC:M4 prog 302 cap cv D w g) :
 Calls prog 301 #[.slice (some ⟨g,0,none⟩) n c,.func (.func 302) #[] #[.pointer (some ⟨cap,0,none⟩)]] w (M5 w base g n c (Mo.dF (fun a b=>decide (cv a b<0)) D)):=by
 have HI:=aa (EI w cap cv D h hl HC)
 clear HC h
 go_enter func301,ntmps301
 exact Up
theorem Rz(x y:Int):Calls prog 303 #[.int .i64 x,.int .i64 y] w fun e w'=>e=.returned (.int .i64 (if x<y then -1 else if y<x then 1 else 0))/\w=w':=by
 have HZ:=aa (fun z=>(by
  go_enter func308,ntmps308;go_wp2;go_ret;exact⟨rfl,rfl⟩:Calls prog 308 #[.int .i64 z] w fun e w'=>e=.returned (.bool false)/\w=w'))
 by_cases h1:x<y
 ·rw[au h1];exact WB
 ·rw[ai h1];by_cases h2:y<x
  ·rw[au h2];exact WB
  ·rw[ai h2];exact WB
end
def cvT(xs:List Mo.Wt)(x y:Int):Int:=if Mo.iU xs x.toNat<Mo.iU xs y.toNat then -1 else if Mo.iU xs y.toNat<Mo.iU xs x.toNat then 1 else 0
def eY(l:List Nat):List Int:=l.map fun(i:Nat)=>(i:Int)
theorem M7(lt:Nat->Nat->Bool)(DN:Int->Int->Bool)(h:∀a b:Nat,DN a b=lt a b)(x:Nat):∀l:List Nat,Mo.iz DN x (eY l)=eY (Mo.iz lt x l):=by
 intro l;induction l with
 |nil=>rfl
 |cons y l ih=>show(if DN x y=true then(y:Int)::Mo.iz DN x (eY l)else(x:Int)::(y:Int)::eY l)=eY (if lt x y=true then y::Mo.iz lt x l else x::y::l);rw[h,ih];split<;>rfl
theorem Jo(lt:Nat->Nat->Bool)(DN:Int->Int->Bool)(h:∀a b:Nat,DN a b=lt a b)(l:List Nat):Mo.dF DN (eY l)=eY (Mo.dF lt l):=by
 have key:∀(l acc:List Nat),(eY l).foldl (fun acc x=>Mo.iz DN x acc) (eY acc)=eY (l.foldl (fun acc x=>Mo.iz lt x acc) acc):=by
  intro l;induction l with
  |nil=>intro acc;rfl
  |cons x l ih=>intro acc;show(eY l).foldl _ (Mo.iz DN x (eY acc))=_;rw[M7 lt DN h,ih];rfl
 unfold Mo.dF;have:=key l [];unfold eY at this ⊢;rw[List.map_nil]at this;rw[this,List.map_reverse]
def EJ(hd:Int)(k:Mo.Cs):Bool:=k.2.1==hd
def yV(xs:List Mo.Wt)(hd:Int)(k:Nat):List Nat:=(List.range k).filter fun t=>(xs.getD t Mo.gK).on && (xs.getD t Mo.gK).cases.any (EJ hd)
theorem M8{xs:List Mo.Wt}(hx:xs[k]?=some x):yV xs hd (k+1)=if(x.on && x.cases.any (EJ hd))=true then yV xs hd k++[k]else yV xs hd k:=by
 have e:xs.getD k Mo.gK=x:=by rw[eR,hx];rfl
 unfold yV;rw[List.range_succ,List.filter_append,List.filter_cons,e];rcases h:(x.on && x.cases.any (EJ hd))with _|_
 ·rw[ai ah,ai ah];simp
 ·rw[au rfl,au rfl];rfl
theorem Ab(xs:List Mo.Wt)(hd:Int)(k:Nat):(yV xs hd k).length<=k:=by have:=List.length_filter_le (fun t=>(xs.getD t Mo.gK).on && (xs.getD t Mo.gK).cases.any (EJ hd)) (List.range k);unfold yV;simpa using this
theorem RA{xs:List Mo.Wt}(h:t∈yV xs hd k):t<k:=List.mem_range.1 (List.mem_filter.1 h).1
theorem M9(xs:List Mo.Wt)(hd:Int):eY (Mo.qh xs hd)=Mo.dF (fun a b=>decide (cvT xs a b<0)) (eY (yV xs hd xs.length)):=by
 rw[Jo (fun a b=>decide (Mo.iU xs a<Mo.iU xs b)) _ (fun a b=>?_)]
 ·rfl
 ·unfold cvT;rw[fF,fF];by_cases h:Mo.iU xs a<Mo.iU xs b
  ·rw[au h];simp[h]
  ·rw[ai h];split<;>simp[h]
def OnE(xs:List Mo.Wt)(hd:Int)(w:World)(e:Ending)(w':World):Prop:=∃A c,e=.returned (.slice A (Mo.qh xs hd).length c)/\aL w' w.heap.size 3 .i64 (.slice A (Mo.qh xs hd).length c) (eY (Mo.qh xs hd))/\Below w.heap.size w w'
section
variable(w:World)
theorem Na(a:Nat)(hd:Int)(ha:w.cell? ⟨a,0,none⟩=some (.int .i64 hd))(ha1:a<w.heap.size)(A:Option Addr)(m:Nat)(xs:List Mo.Cs)(n:Nat)(hn:n=xs.length)(hr:cN w bk A xs)(hl:n<=100000) :
 Calls prog 299 #[.slice A n m,.func (.func 300) #[] #[.pointer (some ⟨a,0,none⟩)]] w (tX (xs.any (EJ hd)) w):=by
 have HI:=aa (wK w 300 #[.pointer (some ⟨a,0,none⟩)] a 0 (.inr (.inl ⟨rfl,rfl⟩)) (EJ hd) (fun k wx hb=>Wv wx a hd ((hb.cell (p:=⟨a,0,none⟩) ha1).trans ha) (YB hb ha1) k) A m xs n hn hr hl)
 have HA:=aa (kH (EJ hd) xs)
 obtain⟨r,hr'⟩:=aD (iL (EJ hd) xs)
 rw[<-hr']at HI HA
 clear hn hr hr' ha ha1
 go_enter func299,ntmps299
 go_wp2_with fail
 refine HI.mono ?_
 rintro e w1 ⟨rfl,hb1⟩
 have bj:=aa hb1
 clear hb1
 go_wp2_with fail
 go_ret
 rw[HA.out]
 exact⟨rfl,bj⟩
theorem RD(cap:Nat)(A:Option Addr)(n c:Nat)(kg:w.cell? ⟨cap,0,none⟩=some (.slice A n c))(_:cap<w.heap.size)(a b:Nat)(ad:Addr)(hA:A=some ad)(ta tb:Int)(ha:a<n)(hb:b<n)(ca:w.cell? ⟨(ad.add (a*4)).block,(ad.add (a*4)).off+1,none⟩=some (.int .i64 ta))(cb:w.cell? ⟨(ad.add (b*4)).block,(ad.add (b*4)).off+1,none⟩=some (.int .i64 tb)) :
 Calls prog 302 #[.int .i64 a,.int .i64 b,.pointer (some ⟨cap,0,none⟩)] w fun e w'=>e=.returned (.int .i64 (if ta<tb then -1 else if tb<ta then 1 else 0))/\iH w w':=by
 subst hA
 have HC:=aa (fun wx=>Rz wx ta tb)
 generalize(if ta<tb then(-1:Int)else if tb<ta then 1 else 0)=r at *
 have t1:(0:Int)<=(a:Int):=ae
 have t2:(0:Int)<=(b:Int):=ae
 have t3:(a:Int)<(n:Int):=ae
 have t4:(b:Int)<(n:Int):=ae
 go_enter func302,ntmps302
 go_wp2_with fail
 go_quiet((go_at_call 303;exact qc (HC _)))
 go_wp2_with fail
 go_ret
 exact⟨rfl,_,rfl⟩
theorem Jp(A:Option Addr)(c:Nat)(f:Value):Calls prog 310 #[.slice A 0 c,.int .i64 0,.int .i64 0,f] w fun e w'=>e=.returned (.tuple #[])/\w=w':=by go_enter func310,ntmps310;exact aaN
theorem EK(A:Option Addr)(c:Nat)(f:Value):Calls prog 307 #[.slice A 0 c,.int .i64 0,f] w fun e w'=>e=.returned (.tuple #[])/\w=w':=by
 go_enter func307,ntmps307;go_wp2_with fail;go_loopw[7,8] (fun a b wr=>a=.int .i64 0/\b=.int .i64 20/\Hid (wr=w)) (fun _ _ _=>0);case atStart=>exact⟨rfl,rfl,rfl⟩
 case round =>
  obtain⟨rfl,rfl,HW⟩:=hrel;have hw:=HW.out;subst hw;go_wp2_with fail;refine(Jp _ A c f).mono ?_;rintro e w1 ⟨rfl,rfl⟩;go_wp2_with fail;go_loopw[6] (fun a wq=>a=.int .i64 20/\Hid (wq=wr)) (fun _ _=>0);case atStart=>exact⟨rfl,rfl⟩
  case round=>obtain⟨rfl,ng⟩:=hrel;have hw:=ng.out;subst hw;go_wp2_with fail;go_end0;exact⟨rfl,rfl⟩
theorem Nb(A:Option Addr)(c:Nat)(f:Value):Calls prog 301 #[.slice A 0 c,f] w fun e w'=>e=.returned (.tuple #[])/\w=w':=by go_enter func301,ntmps301;go_wp2_with fail;refine(EK _ A c f).mono ?_;rintro e w1 ⟨rfl,rfl⟩;go_wp2_with fail;go_end0;exact⟨rfl,rfl⟩
theorem EL(l:List Nat)(k:Nat):eY (l++[k])=eY l++[(k:Int)]:=by unfold eY;simp
theorem jf(l:List Nat):(eY l).length=l.length:=by unfold eY;simp
theorem Nc(A:Option Addr)(c:Nat)(xs:List Mo.Wt)(hn:n=xs.length)(hl:n<=19)(hr:fX w A xs)(hc:∀x∈xs,x.cases.length<=100000)(hd:Int) :
 Calls prog 292 #[.slice A n c,.int .i64 hd] w (OnE xs hd w):=by
 have HN:=aa hn;have HC:=aa hc
 have HR:=aa (fun w' (hb:Below w.heap.size w w') (j:Nat) (x:Mo.Wt) hx=>fX.row (hr.jl aP hb) (j:=j) (x:=x) hx)
 have oW:=aa (fun(j:Nat) (x:Mo.Wt) (hx:xs[j]?=some x)=>fX.row hr hx)
 have bG:Hid (Below w.heap.size w ((w.alloc (.cells #[.slice A n c] 68)).alloc (.cells #[.int .i64 hd] 3))):=ak (ak (aj w) _) _
 have gV:Hid (af ((w.alloc (.cells #[.slice A n c] 68)).alloc (.cells #[.int .i64 hd] 3)) w.heap.size 68 #[.slice A n c]):=(af.new _ _ _).alloc _
 have fh:Hid (af ((w.alloc (.cells #[.slice A n c] 68)).alloc (.cells #[.int .i64 hd] 3)) (w.heap.size+1) 3 #[.int .i64 hd]):=af.newAt _ _ _ aF
 clear hn hr hc
 go_enter func292,ntmps292
 go_wp2_with fail
 go_loopw[5,10] (fun v i wr=>∃(k:Nat) (B:Option Addr) (d:Nat),k<=n/\i=.int .i64 k/\v=.slice B (yV xs hd k).length d/\Hid (aL wr (w.heap.size+1+1) 3 .i64 (.slice B (yV xs hd k).length d) (eY (yV xs hd k)))/\Hid (Below w.heap.size w wr)/\Hid (af wr w.heap.size 68 #[.slice A n c])/\Hid (af wr (w.heap.size+1) 3 #[.int .i64 hd])) (fun _ i _=>n-(intOf i).toNat)
 case atStart=>exact⟨0,none,0,aY _,rfl,rfl,aL.nil _ _ _ _,bG,gV,fh⟩
 case round =>
  obtain⟨k,B,d,hk,rfl,rfl,HO,HB,HA,HH⟩:=hrel;obtain⟨hca,-,hga⟩:=af.aK HA;by_cases hlt:k<n
  ·obtain⟨x,hx⟩:∃x,xs[k]?=some x:=⟨_,cD (by rw[<-HN.out];exact hlt)⟩
   obtain⟨ad,D,dd,hA,hd',hRd,c0,c1,c2,c3⟩:=HR.out wr HB k x hx;have HX:=aa hx;have uD:x.cases.length<=100000:=HC.out x (bP hx);have HF:=aa (M8 (hd:=hd) hx);have fP:=aa (fun(wy:World) (hb:Below wr.heap.size wr wy)=>Na wy (w.heap.size+1) hd ((hb.cell (p:=⟨w.heap.size+1,0,none⟩) HH.lt).trans (HH.cell 0)) (YB hb HH.lt) D dd x.cases _ rfl (hRd.below hb) uD);subst hA;clear hx hd' hRd;obtain⟨bl,hbl⟩:=aD x.cases.length;rw[<-hbl]at fP c3;clear hbl uD;have Uq:=Ab xs hd k;obtain⟨fl,WD⟩:=aD ((yV xs hd k).length);rw[<-WD]at HO Uq ⊢;have Ac:=aa WD;clear WD;have hsz:=HB.size;rcases jN:x.on with _|_
   ·rw[jN]at c0;have KJ:Hid (yV xs hd (k+1)=yV xs hd k):=by unfold Hid;rw[HF.out,jN];rfl
    clear jN;go_wp2_with fail;go_roundw;case rel=>refine⟨k+1,B,d,ae,by go_num,by rw[KJ.out,Ac.out],?_,ak HB _,HA.alloc _,HH.alloc _⟩;rw[KJ.out, <-Ac.out];exact aL.alloc HO _
    case measure=>simp[intOf];omega
   ·rw[jN]at c0;rcases hany:x.cases.any (EJ hd)with _|_
    ·rw[hany]at fP;have KJ:Hid (yV xs hd (k+1)=yV xs hd k):=by unfold Hid;rw[HF.out,jN,hany];rfl
     clear jN hany;go_wp2_with fail;refine(fP _ (ak (aj wr) _)).mono ?_;rintro e w2 ⟨rfl,hb2⟩;have bq:=aa (ag (ak (aj wr) (.cells #[.bool true,.int .i64 x.ay,.int .i64 x.seq,.slice D bl dd] 79)) hb2);clear hb2;go_wp2_with fail;go_roundw;case rel=>refine⟨k+1,B,d,ae,by go_num,by rw[KJ.out,Ac.out],?_,ag HB bq,HA.ag bq,HH.ag bq⟩;rw[KJ.out, <-Ac.out];exact aL.ag HO bq
     case measure=>simp[intOf];omega
    ·rw[hany]at fP;have KJ:Hid (yV xs hd (k+1)=yV xs hd k++[k]):=by unfold Hid;rw[HF.out,jN,hany];rfl
     clear jN hany;go_wp2_with fail;refine(fP _ (ak (aj wr) _)).mono ?_;rintro e w2 ⟨rfl,hb2⟩;have bq:=aa (ag (ak (aj wr) (.cells #[.bool true,.int .i64 x.ay,.int .i64 x.seq,.slice D bl dd] 79)) hb2);clear hb2 c0 c1 c2 c3 hca;have zH:=bq.size;have eu:=aa (aL.ag HO bq);go_wp2_with(at_builtin;refine cP _ rfl _ _ 22 rfl (w.heap.size+1+1) 3 .i64 underlying22 fc _ (eY (yV xs hd k)) rfl (aL.alloc eu _) (some ⟨w2.heap.size,0,none⟩) 1 1 [(k:Int)] rfl rfl (bC.one _ .i64 _ _) ?c4 ?c6 ?_)
     case c4=>rw[jf, <-Ac.out];simp;omega
     case c6=>simp;omega
     intro v4 w4 bX bg hzz;clear hzz;rw[<-EL]at bX;obtain⟨A4,c4,hv4⟩:=bX.shape;rw[jf,eN,gC, <-Ac.out]at hv4;subst hv4;have mA:=aL.alloc eu (.cells #[.int .i64 k] 3);have ha3:=(HA.ag bq).alloc (.cells #[.int .i64 k] 3);have hh3:=(HH.ag bq).alloc (.cells #[.int .i64 k] 3);have ha4:=ha3.grown bg (aV mA ha3 ah);have hh4:=hh3.grown bg (fun he=>by have:=(aX mA he.symm).1;omega);have hb4:=aL.br mA (ak (ag HB bq) (.cells #[.int .i64 k] 3)) bg (by simp;omega) (Nat.le_add_right w.heap.size 2);have kV:=aa bX;have HA4:=aa ha4;have HH4:=aa hh4;have fJ:=aa hb4;clear bX bg mA ha3 hh3 ha4 hh4 hb4;go_wp2_with fail;go_roundw;case rel =>
      refine⟨k+1,A4,c4,ae,by go_num,?_,?_,fJ,HA4,HH4⟩
      ·rw[KJ.out,eN,gC, <-Ac.out]
      ·rw[KJ.out,eN,gC, <-Ac.out];exact kV.out
     case measure=>simp[intOf];omega
  ·have qp:k=xs.length:=by have:=HN.out;omega
   have YZ:=aa (M9 xs hd);rw[<-qp]at YZ;have Uq:=Ab xs hd k;have aaO:=aa (fun t ht=>RA (xs:=xs) (hd:=hd) (k:=k) (t:=t) ht);have HKN:Hid (k=n):=by unfold Hid;omega
   clear qp;obtain⟨L,hL⟩:=aD (yV xs hd k);rw[<-hL]at HO YZ Uq aaO ⊢;clear hL;rcases L with _|⟨z,L⟩
   ·go_wp2_with fail;refine(Nb _ B d _).mono ?_;rintro e w1 ⟨rfl,rfl⟩;go_wp2_with fail;have h0:(Mo.qh xs hd).length=0:=by rw[<-jf,YZ.out];rfl
    have h1:eY (Mo.qh xs hd)=[]:=YZ.out;go_ret;refine⟨B,d,by rw[h0];rfl,?_,HB⟩;rw[h0,h1];exact aL.weak HO ae
   ·obtain⟨g,c',hv,hg0,hg1⟩:=HO.form (by unfold eY;simp);injection hv with e1 e2 e3
    subst e1 e3;clear e2;have hS:Jl wr wr (w.heap.size+1+1) g (L.length+1) d (eY (z::L)):=⟨HO,fun _ _ _=>rfl,Below.refl _ _,aS _,hg0,hg1⟩
    have hsz:=HB.size;have aaP:M4 prog 302 w.heap.size (cvT xs) (eY (z::L)) wr g:=by
     intro wx hw x y hx hy;have get:∀x∈eY (z::L),∃a:Nat,x=a/\a<n/\∃ad,A=some ad/\wx.cell? ⟨(ad.add (a*4)).block,(ad.add (a*4)).off+1,none⟩=some (.int .i64 (Mo.iU xs a)):=by
      intro x hx;obtain⟨a,ha,rfl⟩:=List.mem_map.1 hx;have han:=aaO.out a ha;obtain⟨xa,RF⟩:∃xa,xs[a]?=some xa:=⟨_,cD (by have:=HN.out;have:=HKN.out;omega)⟩
      obtain⟨ad,_,_,hA',_,_,_,q1,_⟩:=oW.out a _ RF;refine⟨a,rfl,by have:=HKN.out;omega,ad,hA',?_⟩;have Jq:=bc q1;have xR:(ad.add (a*4)).block<w.heap.size:=Jq;have ht:Mo.iU xs a=xa.ay:=by unfold Mo.iU;rw[eR,RF];rfl
      rw[ht, <-q1, <-HB.out.cell (p:=⟨(ad.add (a*4)).block,(ad.add (a*4)).off+1,none⟩) Jq];unfold World.cell?;dsimp only;rw[hw _ ae ae]
     obtain⟨a,rfl,ha,ad,hA,ca⟩:=get x hx;obtain⟨b,rfl,hb,ad',hA',cb⟩:=get y hy;rw[hA]at hA';injection hA' with hA'
     subst hA';have xU:wx.cell? ⟨w.heap.size,0,none⟩=some (.slice A n c):=by have:=HA.cell 0;rw[<-show wr.cell? ⟨w.heap.size,0,none⟩=some (.slice A n c)from this];unfold World.cell?;dsimp only;rw[hw _ HA.out.lt ae]
     have uD:w.heap.size<wx.heap.size:=by have:=bc xU;exact this
     have:=RD wx w.heap.size A n c xU uD a b ad hA (Mo.iU xs a) (Mo.iU xs b) ha hb ca cb;unfold cvT;rw[fF,fF];exact this
    have HSO:=aa (M6 wr w.heap.size (cvT xs) (eY (z::L)) hS (by have:=HKN.out;simp at Uq;omega) aaP);clear hS aaP;go_wp2_with fail;refine HSO.mono ?_;rintro e w1 ⟨rfl,hs⟩;have HS:=aa hs;clear hs;go_wp2_with fail;go_ret;have h0:(Mo.qh xs hd).length=(z::L).length:=by rw[<-jf,YZ.out,jb,jf]
    have hso:=HS.own;rw[<-YZ.out]at hso;refine⟨some ⟨g,0,none⟩,d,by rw[h0];rfl,?_,HB.trans (HS.ext.mono ae)⟩;rw[h0];exact aL.weak hso ae
end
def mg(x:Mo.Told):List Value:=[x.th,x.res.seq,x.res.cs,x.res.code,x.res.value]
theorem yX(x:Mo.Told):(mg x).length=5:=rfl
theorem Jr(x:Mo.Told):∀u∈mg x,u.oneCell'=true:=by intro u hu;simp[mg]at hu;rcases hu with rfl|rfl|rfl|rfl|rfl<;>rfl
def WE(x:Mo.Ch)(w:World)(v:Value)(w':World):Prop:=∃B d,v=.agg #[x.gen,x.cap,x.used,x.closed,.slice B x.buf.length d]/\aL w' w.heap.size 3 .i64 (.slice B x.buf.length d) x.buf/\Below w w w'
def pg(g:Mo.vh)(n:Nat)(w:World)(e:Ending)(w':World):Prop:=∃B d A c D dd,e=.returned (.tuple #[.agg #[g.c.gen,g.c.cap,g.c.used,g.c.closed,.slice B g.c.buf.length d],.slice A n c,.agg #[g.r.seq,g.r.cs,g.r.code,g.r.value],.slice D g.told.length dd]) /\
 bC w' .i64 B g.c.buf/\(∀b,B=some b->g.c.buf≠[]->Ty w' 3 b.block)/\g.c.buf.length<=d/\ko w' w.heap.size (.slice A n c) g.l/\cN w' mg D g.told/\(∀b,D=some b->g.told≠[]->Ty w' 229 b.block)/\g.told.length<=dd/\Below w w w'
theorem uQ{c:Nat}{e:TypeId}{k:IntKind}{xs:List Int}{b:Addr}(h:aL w base e k (.slice (some b) n c) xs):Ty w e b.block:=by exact Uk
theorem nV{l:List Mo.Wt}(h:Mo.eU l dir hd k=some (t,i)):∃x,l[t]?=some x/\Mo.mP x dir hd=some i:=by
 induction k generalizing t i with
 |zero=>cases h
 |succ k ih =>
  unfold Mo.eU at h;split at h
  ·exact ih h
  ·rename_i x hx;split at h
   ·exact ih h
   ·rename_i i' hi;split at h
    ·injection h with h;injection h with h1 h2;subst h1 h2;exact⟨x,hx,hi⟩
    ·split at h
     ·injection h with h;injection h with h1 h2;subst h1 h2;exact⟨x,hx,hi⟩
     ·rename_i t' j' hq _;injection h with h;injection h with h1 h2
      subst h1 h2;exact ih hq
theorem GV(h:Mo.mP x dir hd=some i):x.on=true/\∃k,x.cases[i]?=some k/\k.1=dir/\k.2.1=hd:=by
 unfold Mo.mP at h;split at h
 ·rename_i ho;rw[List.findIdx?_eq_some_iff_getElem]at h;obtain⟨h1,h2,_⟩:=h;refine⟨ho,_,cD h1,?_⟩;simpa using h2
 ·cases h
section
variable(w:World)
theorem kW(x:Mo.Ch)(B:Option Addr)(bl d:Nat)(hbl:bl=x.buf.length)(hl:bl<=100000)(hr:bC w .i64 B x.buf) :
 Calls prog 273 #[.agg #[x.gen,x.cap,x.used,x.closed,.slice B bl d]] w fun e w'=>∃v,e=.returned v/\WE x w v w':=by
 have gu:=aa (fun wx (hb:Below w w wx)=>gq wx B d x.buf hbl ae (hr.below hb))
 have kt:=aa hbl
 unfold WE
 rw[<-hbl]
 clear hbl hr
 have bG:Hid (Below w w ((w.alloc (qZ x B bl d)).alloc pS)):=ak (ak (aj w) _) _
 have gV:Hid (af ((w.alloc (qZ x B bl d)).alloc pS) w.heap.size 83 #[x.gen,x.cap,x.used,x.closed,.slice B bl d]):=(af.new _ _ _).alloc _
 have kK:Hid (af ((w.alloc (qZ x B bl d)).alloc pS) (w.heap.size+1) 83 #[oZ,oZ,false,false,oN]):=(af.newAt _ _ _ aF)
 go_enter func273,ntmps273
 go_wp2_with fail
 refine(gu _ bG).mono ?_
 rintro e w1 ⟨B1,d1,rfl,Gw,eo,hb1⟩
 have bj:=aa (ag bG hb1);have fh:=aa (gV.ag hb1);have iE:=aa (kK.ag hb1)
 have jO:=aa (aL.weak eo bG.size)
 clear eo hb1 Gw
 obtain⟨fU,hfk,-⟩:=af.aK fh
 have km:=af.lt fh
 obtain⟨dh,cW,-⟩:=af.aK iE
 have cY:=af.lt iE
 go_wp2_with fail
 have hK2:=fh.bb 4 (.slice B1 bl d1)
 have vU:=iE.far (p:=⟨w.heap.size,4,none⟩) (by show w.heap.size+1≠w.heap.size;omega) (.slice B1 bl d1)
 have vV:aL _ w.heap.size 3 .i64 (.slice B1 bl d1) x.buf:=bB jO fh ah 4 (.slice B1 bl d1)
 have qO:=bj.setCell (p:=⟨w.heap.size,4,none⟩) (aS _) (.slice B1 bl d1)
 have hX:=gN vU x.gen x.cap x.used x.closed (.slice B1 bl d1)
 have l7:=fun i=>af.cell hX i
 have e1:aL _ w.heap.size 3 .i64 (.slice B1 bl d1) x.buf:=dw vV vU ah x.gen x.cap x.used x.closed (.slice B1 bl d1)
 have e3:=eQ qO (b:=w.heap.size+1) (bU _) x.gen x.cap x.used x.closed (.slice B1 bl d1)
 change bodyPost _ _ _ _ _ (gv (w1.setCell ⟨w.heap.size,4,none⟩ (.slice B1 bl d1)) (w.heap.size+1) x.gen x.cap x.used x.closed (.slice B1 bl d1))
 generalize gv (w1.setCell ⟨w.heap.size,4,none⟩ (.slice B1 bl d1)) (w.heap.size+1) x.gen x.cap x.used x.closed (.slice B1 bl d1)=wz at *
 clear fU hfk km dh cW cY
 refine bodyPost_ret (v:=.agg #[x.gen,x.cap,x.used,x.closed,.slice B1 bl d1]) ?_ rfl ?_
 ·simp[results,results273,go_sem,l7]
 ·exact⟨_,rfl,B1,d1,rfl,e1,e3⟩
theorem tB(A:Option Addr)(c:Nat)(xs:List Mo.Wt)(hn:n=xs.length)(hr:fX w A xs)(hx:xs[t]?=some x)(wh co va:Int) :
 Calls prog 298 #[.slice A n c,t,wh,co,va] w fun e w'=>e=.returned (.agg #[t,x.seq,wh,co,va])/\Below w w w':=by
 obtain⟨ad,B,d,hA,_,_,c0,c1,c2,c3⟩:=fX.row (hr.jl aP (ak (aj w) (.cells #[oZ,oZ,oZ,oZ,oZ] 229))) hx
 have RG:t<n:=by rw[hn];exact cE hx
 subst hA
 clear hn hr hx c0 c1 c3
 go_enter func298,ntmps298
 go_wp2_with fail
 refine bodyPost_ret (v:=.agg #[t,x.seq,wh,co,va]) ?_ rfl ?_
 ·simp[results,results298,go_sem]
 ·exact⟨rfl,ak (aj w) _⟩
theorem pK{xs:List Mo.Wt}(h:iX xs dir hd xs.length T W ok):ok=(Mo.dX xs dir hd).isSome:=h.1
theorem wM(x:Mo.Ch)(B:Option Addr)(bl d:Nat)(hbl:bl=x.buf.length)(hu:x.used=true)(A:Option Addr)(c:Nat)(xs:List Mo.Wt)(hn:n=xs.length)(hl:n<=100000)(hr:fX w A xs)(hc:∀x∈xs,x.cases.length<=100000)(hd:Int) :
 Calls prog 286 #[.agg #[x.gen,x.cap,x.used,x.closed,.slice B bl d],hd,.slice A n c,.int .i64 1] w fun e w'=>e=.returned (Mo.dH x hd xs 1)/\Below w w w':=by
 have HF:=aa (fun wx (hb:Below w w wx)=>jQ wx A c xs hn hl (hr.jl aP hb) hc 2 hd)
 have HR:Hid (Mo.dH x hd xs 1=(x.closed || (Mo.dX xs 2 hd).isSome || decide ((bl:Int)<x.cap))):=by unfold Hid Mo.dH;rw[hu,hbl];simp
 have bG:Hid (Below w w (w.alloc (qZ x B bl d))):=ak (aj w) _
 have gV:Hid (af (w.alloc (qZ x B bl d)) w.heap.size 83 #[x.gen,x.cap,x.used,x.closed,.slice B bl d]):=af.new _ _ _
 generalize Mo.dH x hd xs 1=r at *
 clear hbl hn hr hc
 obtain⟨ge,cp,us,cl,bf⟩:=x
 dsimp only at *
 subst hu
 go_enter func286,ntmps286
 go_wp2_with fail
 refine(HF _ bG).mono ?_
 rintro e w1 ⟨T,W,ok,rfl,hf,hb1⟩
 have bj:=aa (ag bG hb1);have fh:=aa (gV.ag hb1)
 have WG:Hid (ok=(Mo.dX xs 2 hd).isSome):=pK hf
 exact aaQ
theorem wO(x:Mo.Ch)(B:Option Addr)(bl d:Nat)(hbl:bl=x.buf.length)(hu:x.used=true)(A:Option Addr)(c:Nat)(xs:List Mo.Wt)(hn:n=xs.length)(hl:n<=100000)(hr:fX w A xs)(hc:∀x∈xs,x.cases.length<=100000)(hd:Int) :
 Calls prog 286 #[.agg #[x.gen,x.cap,x.used,x.closed,.slice B bl d],hd,.slice A n c,.int .i64 2] w fun e w'=>e=.returned (Mo.dH x hd xs 2)/\Below w w w':=by
 have HF:=aa (fun wx (hb:Below w w wx)=>jQ wx A c xs hn hl (hr.jl aP hb) hc 1 hd)
 have HR:Hid (Mo.dH x hd xs 2=(x.closed || (Mo.dX xs 1 hd).isSome || decide ((0:Int)<bl))):=by unfold Hid Mo.dH;rw[hu,hbl];simp
 have bG:Hid (Below w w (w.alloc (qZ x B bl d))):=ak (aj w) _
 have gV:Hid (af (w.alloc (qZ x B bl d)) w.heap.size 83 #[x.gen,x.cap,x.used,x.closed,.slice B bl d]):=af.new _ _ _
 generalize Mo.dH x hd xs 2=r at *
 clear hbl hn hr hc
 obtain⟨ge,cp,us,cl,bf⟩:=x
 dsimp only at *
 subst hu
 go_enter func286,ntmps286
 go_wp2_with fail
 refine(HF _ bG).mono ?_
 rintro e w1 ⟨T,W,ok,rfl,hf,hb1⟩
 have bj:=aa (ag bG hb1);have fh:=aa (gV.ag hb1)
 have WG:Hid (ok=(Mo.dX xs 1 hd).isSome):=pK hf
 exact aaQ
end
theorem pg.mk'{g:Mo.vh}{c dl:Nat}(h1:bl=g.c.buf.length)(h2:dl=g.told.length)(hO:aL w' w.heap.size 3 .i64 (.slice B bl d) g.c.buf)(hW:ko w' w.heap.size (.slice A n c) g.l)(hT:cN w' mg D g.told)(hTt:∀b,D=some b->g.told≠[]->Ty w' 229 b.block)(hd:g.told.length<=dd)(hB:Below w w w') :
 pg g n w (.returned (.tuple #[.agg #[g.c.gen,g.c.cap,g.c.used,g.c.closed,.slice B bl d],.slice A n c,.agg #[g.r.seq,g.r.cs,g.r.code,g.r.value],.slice D dl dd])) w':=by
 subst h1 h2
 exact⟨B,d,A,c,D,dd,rfl,hO.pU.2,fun b hb _=>by subst hb;exact uQ hO,hO.cap.2,hW,hT,hTt,hd,hB⟩
theorem Nd{e:TypeId}{xs:List Value}(h:w.ownsRow base e m v n xs)(hf:∀b,v.ownBlock=some b->w'.heap[b]?=w.heap[b]?):w'.ownsRow base e m v n xs:=by
 obtain⟨h1,h2⟩:=h;refine⟨h1,?_⟩;rcases h2 with h2|⟨g',cap,cur,hv,hb,hh,r⟩
 ·exact .inl h2
 ·exact .inr ⟨g',cap,cur,hv,hb,by rw[hf g' (by rw[hv];rfl)];exact hh,r⟩
structure Two (w w':World) (q r:Nat) (t1 t2:TypeId):Prop where
 hq:∃ys,af w q t1 ys
 hr:∃ys,af w r t2 ys
 rest:∀b,b≠q->b≠r->w'.heap[b]?=w.heap[b]?
 size:w'.heap.size=w.heap.size
theorem Two.mk'{r:Nat}{c2 v1 v2:List Value}(h1:af w q t1 c1.toArray)(h2:af w r t2 c2.toArray)(hne:q≠r)(l1:c1.length=v1.length)(l2:c2.length=v2.length) :
 Two w (av (av w q 0 v1) r 0 v2) q r t1 t2/\af (av (av w q 0 v1) r 0 v2) q t1 v1.toArray/\af (av (av w q 0 v1) r 0 v2) r t2 v2.toArray :=
 ⟨⟨⟨_,h1⟩,⟨_,h2⟩,fun b hq hr=>(aM hr v2 0).trans (aM hq v1 0),by rw[bw,bw]⟩,aW (aR h1 l1) hne v2 0,aR (aW h2 (fun h=>hne h.symm) v1 0) l2⟩
section
variable{w w':World} {q r:Nat} {t1 t2:TypeId}
theorem Two.own(T:Two w w' q r t1 t2){e:TypeId}{xs:List Value}(h:w.ownsRow base e m v n xs)(h1:e≠t1)(h2:e≠t2):w'.ownsRow base e m v n xs:=by obtain⟨ys,hq⟩:=T.hq;obtain⟨zs,hr⟩:=T.hr;exact Nd h fun b hb=>T.rest b (fun he=>aV h hq h1 (by rw[hb,he])) (fun he=>aV h hr h2 (by rw[hb,he]))
theorem Two.ty(T:Two w w' q r t1 t2){e:TypeId}(h:Ty w e b)(h1:e≠t1)(h2:e≠t2):Ty w' e b/\w'.heap[b]?=w.heap[b]?:=by obtain⟨ys,hq⟩:=T.hq;obtain⟨zs,hr⟩:=T.hr;obtain⟨us,fr,h⟩:=h;unfold af at hq hr;have e1:w'.heap[b]?=w.heap[b]?:=T.rest b (fun he=>by subst he;rw[hq]at h;injection h with h;injection h with _ h;exact h1 h.symm) (fun he=>by subst he;rw[hr]at h;injection h with h;injection h with _ h;exact h2 h.symm);exact⟨⟨us,fr,e1.trans h⟩,e1⟩
theorem Two.jl(T:Two w w' q r t1 t2)(h1:t1≠3/\t1≠110)(h2:t2≠3/\t2≠110)(h:gJ w b):gJ w' b/\w'.heap[b]?=w.heap[b]?:=by
 rcases h with h|h
 ·obtain⟨a,b⟩:=T.ty h h1.1.symm h2.1.symm;exact⟨.inl a,b⟩
 ·obtain⟨a,b⟩:=T.ty h h1.2.symm h2.2.symm;exact⟨.inr a,b⟩
theorem Two.wP{P:qN α}{e:TypeId}(gd:Good P)(T:Two w w' q r t1 t2)(h:aH e m P w base (gJ w) v xs)(h1:e≠t1)(h2:e≠t2)(i1:t1≠3/\t1≠110)(i2:t2≠3/\t2≠110):aH e m P w' base (gJ w') v xs:=by obtain⟨ys,hq⟩:=T.hq;obtain⟨zs,hr⟩:=T.hr;exact(h.move gd (fun b hb=>(T.jl i1 i2 hb).2) (fun g hg=>T.rest g (fun he=>h.other hq h1 g hg he) (fun he=>h.other hr h2 g hg he))).mono gd (fun b hb=>(T.jl i1 i2 hb).1)
theorem Two.below(_:Two w w' q r t1 t2){B:Nat}{a:World}{v1 v2:List Value}(hw:w'=av (av w q 0 v1) r 0 v2)(h:Below B a w)(hq:B<=q)(hr:B<=r):Below B a w':=by rw[hw];exact aw hr _ _ _ (aw hq _ _ _ h)
end
section
variable(w:World)
theorem Nf(x:Mo.Ch)(B:Option Addr)(bl d:Nat)(hbl:bl=x.buf.length)(PN:bl<=90000)(hb0:bC w .i64 B x.buf)(A:Option Addr)(c:Nat)(xs:List Mo.Wt)(hn:n=xs.length)(hl:n<=90000)(hr:fX w A xs)(hc:∀x∈xs,x.cases.length<=90000)(hd:Int)(va:Int) :
 Calls prog 305 #[.agg #[x.gen,x.cap,x.used,x.closed,.slice B bl d],hd,.slice A n c,va] w (pg (Mo.nY x hd xs va) n w):=by
 have pW:=aa (fun wx (hb:Below w w wx)=>kW wx x B bl d hbl (by omega) (hb0.below hb))
 have nh:=aa (fun wx (hb:Below w w wx)=>jQ wx A c xs hn (by omega) (hr.jl aP hb) (fun x hx=>bm (hc x hx) (by omega)) 2 hd)
 have oa:=aa (fun wx (hb:Below w w wx)=>ib wx A c xs hn (by omega) (hr.jl aP hb) (fun x hx=>bm (hc x hx) (by omega)))
 have PO:=aa (fun wx (hb:Below w w wx) (j:Nat) (x:Mo.Wt) hx jN=>rT wx A c xs hn (by omega) (hr.jl aP hb) (fun x hx=>bm (hc x hx) (by omega)) (j:=j) (x:=x) hx jN)
 have HEN:=aa (fun wx (hb:Below w w wx) (t:Nat) (x:Mo.Wt) hx (wh co va:Int)=>tB wx A c xs hn (hr.jl aP hb) (t:=t) (x:=x) hx wh co va)
 have EB:=aa (fun wx (hb:Below w w wx) (t:Nat) (x:Mo.Wt) hx=>fX.row (hr.jl aP hb) (j:=t) (x:=x) hx)
 have kt:=aa hbl
 have HN:=aa hn
 unfold WE at pW
 rw[<-hbl]at pW
 clear hbl hb0 hn hr hc
 have bG:Hid (Below w w (((w.alloc (qZ x B bl d)).alloc pS).alloc ij)):=ak (ak (ak (aj w) _) _) _
 have kK:Hid (af (((w.alloc (qZ x B bl d)).alloc pS).alloc ij) (w.heap.size+1) 83 #[oZ,oZ,false,false,oN]):=(af.newAt _ _ _ (by simp)).alloc _
 have ir:Hid (af (((w.alloc (qZ x B bl d)).alloc pS).alloc ij) (w.heap.size+1+1) 48 #[oZ,oZ,oZ,oZ]):=(af.newAt _ _ _ (by simp))
 go_enter func305,ntmps305
 go_wp2_with fail
 (with_reducible refine(pW.out _ bG.out).mono ?_)
 rintro e w1 ⟨v,rfl,B1,d1,rfl,eo,hb1⟩
 have Ij:=kK.out.ag hb1
 have Jq:=ir.out.lt
 have Ca:w.heap.size+1+1<w1.heap.size:=(ir.out.ag hb1).lt
 have bj:=aa (ak (ag bG.out hb1) (qZ x B1 bl d1));have iE:=aa (Ij.alloc (qZ x B1 bl d1));have gI:=aa ((ir.out.ag hb1).alloc (qZ x B1 bl d1))
 have jO:=aa (aL.alloc (aL.weak eo bG.out.size) (qZ x B1 bl d1))
 have fh:=aa (af.new w1 83 #[x.gen,x.cap,x.used,x.closed,.slice B1 bl d1])
 clear eo hb1 Ij kK ir bG pW Jq
 go_wp2_with fail
 (with_reducible refine(nh.out _ bj.out).mono ?_)
 rintro e w2 ⟨T,W,ok,rfl,hf,hb2⟩
 have bq:=aa (ag bj.out hb2);have gp:=aa (iE.out.ag hb2);have g9:=aa (gI.out.ag hb2);have jv:=aa (fh.out.ag hb2);have eu:=aa (aL.ag jO.out hb2)
 have HF:=aa hf
 clear hf hb2 nh iE gI bj fh jO
 rcases ok with _|_
 ·have HG:Hid (Mo.nY x hd xs va=⟨{x with buf:=x.buf++[va]},xs,Mo.dC,[]⟩):=by
   have:Mo.dX xs 2 hd=none:=by
    have:=HF.out.1;cases hh:Mo.eU xs 2 hd xs.length with
    |none=>exact hh
    |some p=>rw[hh]at this;cases this
   unfold Hid Mo.nY;rw[this]
  obtain⟨fU,hfk,-⟩:=af.aK jv.out
  have km:=af.lt jv.out
  go_wp2_with(at_builtin;refine cP _ rfl _ _ 22 rfl w.heap.size 3 .i64 underlying22 fc _ x.buf rfl (aL.alloc eu.out _) w2.heap.size 1 1 [va] rfl rfl (bC.one _ .i64 _ _) ?c4 ?c6 ?_)
  case c4=>rw[<-kt.out];simp;omega
  case c6=>have:=bq.out.size;simp;omega
  intro v4 w4 bX bg hzz
  clear hzz
  obtain⟨A4,c4,hv4⟩:=bX.shape
  rw[eN,gC, <-kt.out]at hv4
  subst hv4
  have mA:=aL.alloc eu.out (.cells #[va] 3)
  have hk3:=jv.out.alloc (.cells #[va] 3)
  have rN:=gp.out.alloc (.cells #[va] 3)
  have hr3:=g9.out.alloc (.cells #[va] 3)
  have hk4:=hk3.grown bg (aV mA hk3 (by decide))
  have tu:=rN.grown bg (aV mA rN (by decide))
  have hr4:=hr3.grown bg (aV mA hr3 (by decide))
  have hb4:=aL.br mA (ak bq.out (.cells #[va] 3)) bg (by have:=bq.out.size;simp;omega) (aS _)
  obtain⟨BM,BN,Ng⟩:=af.aK hk4
  have Ad:=aa hk4;have lQ:=aa tu;have jY:=aa hr4;have fJ:=aa hb4;have kV:=aa bX
  clear bX bg mA hk3 rN hr3 hk4 tu hr4 hb4 fU hfk km
  go_wp2_with fail
  have oc:=Ad.out.bb 4 (.slice A4 (bl+1) c4)
  have jm:=lQ.out.far (p:=⟨w1.heap.size,4,none⟩) (by show w.heap.size+1≠w1.heap.size;omega) (.slice A4 (bl+1) c4)
  have MD:=jY.out.far (p:=⟨w1.heap.size,4,none⟩) (by show w.heap.size+1+1≠w1.heap.size;omega) (.slice A4 (bl+1) c4)
  have Dq:aL _ w.heap.size 3 .i64 (.slice A4 (bl+1) c4) (x.buf++[va]):=bB kV.out Ad.out (by decide) 4 (.slice A4 (bl+1) c4)
  have di:=fJ.out.setCell (p:=⟨w1.heap.size,4,none⟩) (by show w.heap.size<=w1.heap.size;omega) (.slice A4 (bl+1) c4)
  generalize Dw:w4.setCell ⟨w1.heap.size,4,none⟩ (.slice A4 (bl+1) c4)=w5 at *
  have iW:=aa di.drew;have pX:Hid (af w5.drew _ _ _):=jm;have jd:Hid (af w5.drew _ _ _):=MD;have xD:Hid (af w5.drew _ _ _):=oc;have rL:=aa (aL.ag Dq (aj w5).drew)
  have EM:=fun i=>af.cell oc i
  have Nh:=af.lt oc
  clear Dw oc jm MD Dq di BM BN Ng Ad lQ jY fJ kV jv gp g9 bq eu
  go_region_law(first
   |(go_simp;go_at_call 272;(with_reducible refine(oa.out _ iW.out).mono ?_);rintro e w6 ⟨v,rfl,A6,c6,rfl,Q7,fO⟩;have RH:=xD.out.ag fO;have KL:=pX.out.ag fO;have KM:=jd.out.ag fO;have Ni:=fun i=>af.cell RH i;have WH:=fun i=>af.cell KL i;have WJ:=fun i=>af.free KL i;have WK:=fun i=>af.cell KM i;have WL:=fun i=>af.free KM i;have Nj:=RH.lt;have WM:=KL.lt;have WN:=KM.lt;go_wp2_with fail))
  all_goals
   go_wp2_with fail;have hB6:=ag iW.out fO;have Y0:=aL.ag rL.out fO;have hW6:=Q7.weak (base':=w.heap.size) iW.out.size;clear Ni WH WJ WK WL Nj WM WN EM Nh;obtain⟨TW,dZ,xY⟩:=Two.mk' (v1:=[x.gen,x.cap,x.used,x.closed,.slice A4 (bl+1) c4]) (v2:=[oZ,oZ,oZ,oZ]) KL KM (by omega) rfl rfl;have lS:=TW.own Y0 (by decide) (by decide);have Js:=TW.wP aP hW6 (by decide) (by decide) (by decide) (by decide);have fy:=TW.below rfl hB6 (by omega) (by omega);change bodyPost _ _ _ _ _ (av (av w6 (w.heap.size+1) 0 [x.gen,x.cap,x.used,x.closed,.slice A4 (bl+1) c4]) (w.heap.size+1+1) 0 [oZ,oZ,oZ,oZ]);generalize av (av w6 (w.heap.size+1) 0 [x.gen,x.cap,x.used,x.closed,.slice A4 (bl+1) c4]) (w.heap.size+1+1) 0 [oZ,oZ,oZ,oZ]=wz at *;have mD:=fun i=>af.cell dZ i;have pj:=fun i=>af.cell xY i;refine bodyPost_ret (v:=.tuple #[.agg #[x.gen,x.cap,x.used,x.closed,.slice A4 (bl+1) c4],.slice A6 n c6,.agg #[oZ,oZ,oZ,oZ],oN]) ?_ rfl ?_
   ·simp[results,results305,go_sem,mD,pj]
   ·rw[HG.out];exact pg.mk' (w:=w) (g:=⟨{x with buf:=x.buf++[va]},xs,Mo.dC,[]⟩) (by have:=kt.out;simp;omega) (rfl) lS Js (Rd.nil _ _) (fun b hb=>by cases hb) (aS _) fy
 ·obtain⟨⟨t,i⟩,hti⟩:=Option.isSome_iff_exists.1 HF.out.1.symm;obtain⟨hT,hW,_⟩:=HF.out.2 t i hti;obtain⟨y,hy,hyw⟩:=nV hti;have jN:=(GV hyw).1;have HG:Hid (Mo.nY x hd xs va=⟨x,Mo.gL xs t,Mo.dC,[⟨t,⟨y.seq,i,0,va⟩⟩]⟩):=by
   have h1:Mo.dX xs 2 hd=some (t,i):=hti;have h2:(xs.getD t Mo.gK).seq=y.seq:=by rw[eR,hy];rfl
   unfold Hid Mo.nY;rw[h1];dsimp only;unfold Mo.nE;rw[h2]
  subst hT hW;have HE:=aa (HEN.out w2 bq.out t y hy i 0 va);have HY:=aa hy;have Ur:=aa jN;clear hti hy hyw jN;go_wp2_with fail;(with_reducible refine HE.out.mono ?_);rintro e w3 ⟨rfl,hb3⟩;have bZ:=aa (ak (ag bq.out hb3) (.cells #[t,y.seq,i,oZ,va] 229));have jc:=aa ((gp.out.ag hb3).alloc (.cells #[t,y.seq,i,oZ,va] 229));have fx:=aa ((g9.out.ag hb3).alloc (.cells #[t,y.seq,i,oZ,va] 229));have qE:=aa ((jv.out.ag hb3).alloc (.cells #[t,y.seq,i,oZ,va] 229));have iP:=aa (aL.alloc (aL.ag eu.out hb3) (.cells #[t,y.seq,i,oZ,va] 229));have ue:=aa (af.new w3 229 #[t,y.seq,i,oZ,va]);have Lr:w1.heap.size<w3.heap.size:=(jv.out.ag hb3).lt;clear hb3;have HC:=aa (PO.out _ bZ.out t y HY.out Ur.out);go_wp2_with fail;(with_reducible refine HC.out.mono ?_);rintro e w4 ⟨v,rfl,A4,c4,rfl,xT,hb4⟩;have tu:=jc.out.ag hb4;have hr4:=fx.out.ag hb4;have hk4:=qE.out.ag hb4;have ht4:=ue.out.ag hb4;have fJ:=aa (ag bZ.out hb4);have kV:=aa (aL.ag iP.out hb4);have PQ:=aa (xT.weak (base':=w.heap.size) bZ.out.size);obtain⟨dh,cW,-⟩:=af.aK tu;have cY:=af.lt tu;obtain⟨jG,si,-⟩:=af.aK hr4;have hgr:=af.lt hr4;have fU:=fun i=>af.cell hk4 i;have km:=af.lt hk4;have Nk:=fun i=>af.cell ht4 i;have uE:=af.lt ht4;have lQ:=aa tu;have jY:=aa hr4;clear tu hr4 hk4 ht4 xT hb4 bZ jc fx qE iP ue bq gp g9 jv eu HE HC;go_wp2_with fail;go_region;all_goals
   go_wp2_with fail;clear dh cW cY jG si hgr fU km Nk uE;obtain⟨TW,dZ,xY⟩:=Two.mk' (v1:=[x.gen,x.cap,x.used,x.closed,.slice B1 bl d1]) (v2:=[oZ,oZ,oZ,oZ]) lQ.out jY.out (by omega) rfl rfl;have hD:Below _ (av (av w4 (w.heap.size+1) 0 [x.gen,x.cap,x.used,x.closed,.slice B1 bl d1]) (w.heap.size+1+1) 0 [oZ,oZ,oZ,oZ]) (((av (av w4 (w.heap.size+1) 0 [x.gen,x.cap,x.used,x.closed,.slice B1 bl d1]) (w.heap.size+1+1) 0 [oZ,oZ,oZ,oZ]).alloc (.cells #[t,y.seq,i,oZ,va] 229)).drew):=(ak (aj (av (av w4 (w.heap.size+1) 0 [x.gen,x.cap,x.used,x.closed,.slice B1 bl d1]) (w.heap.size+1+1) 0 [oZ,oZ,oZ,oZ])) (.cells #[t,y.seq,i,oZ,va] 229)).drew;have lS:=aL.ag (TW.own kV.out (by decide) (by decide)) hD;have Js:=(TW.wP aP PQ.out (by decide) (by decide) (by decide) (by decide)).jl aP hD;have fy:=ag (TW.below rfl fJ.out (by omega) (by omega)) hD;have dZ:=dZ.ag hD;have xY:=xY.ag hD;have tC:Rd ((av (av w4 (w.heap.size+1) 0 [x.gen,x.cap,x.used,x.closed,.slice B1 bl d1]) (w.heap.size+1+1) 0 [oZ,oZ,oZ,oZ]).alloc (.cells #[t,y.seq,i,oZ,va] 229)) w4.heap.size [t,y.seq,i,oZ,va]:=Rd.Bd (av (av w4 (w.heap.size+1) 0 [x.gen,x.cap,x.used,x.closed,.slice B1 bl d1]) (w.heap.size+1+1) 0 [oZ,oZ,oZ,oZ]) [t,y.seq,i,oZ,va] 229 (by rw[bw,bw]);have WO:=tC.below (aj _).drew;have hY0:Ty ((av (av w4 (w.heap.size+1) 0 [x.gen,x.cap,x.used,x.closed,.slice B1 bl d1]) (w.heap.size+1+1) 0 [oZ,oZ,oZ,oZ]).alloc (.cells #[t,y.seq,i,oZ,va] 229)) 229 w4.heap.size:=⟨_,_,af.newAt (av (av w4 (w.heap.size+1) 0 [x.gen,x.cap,x.used,x.closed,.slice B1 bl d1]) (w.heap.size+1+1) 0 [oZ,oZ,oZ,oZ]) 229 #[t,y.seq,i,oZ,va] (by rw[bw,bw])⟩
   have hYz:=hY0.below (aj _).drew;clear tC hY0;change bodyPost _ _ _ _ _ (((av (av w4 (w.heap.size+1) 0 [x.gen,x.cap,x.used,x.closed,.slice B1 bl d1]) (w.heap.size+1+1) 0 [oZ,oZ,oZ,oZ]).alloc (.cells #[t,y.seq,i,oZ,va] 229)).drew);clear hD TW;generalize((av (av w4 (w.heap.size+1) 0 [x.gen,x.cap,x.used,x.closed,.slice B1 bl d1]) (w.heap.size+1+1) 0 [oZ,oZ,oZ,oZ]).alloc (.cells #[t,y.seq,i,oZ,va] 229)).drew=wz at *;have mD:=fun i=>af.cell dZ i;have pj:=fun i=>af.cell xY i;refine bodyPost_ret (v:=.tuple #[.agg #[x.gen,x.cap,x.used,x.closed,.slice B1 bl d1],.slice A4 n c4,.agg #[oZ,oZ,oZ,oZ],.slice w4.heap.size 1 1]) ?_ rfl ?_
   ·simp[results,results305,go_sem,mD,pj]
   ·rw[HG.out];exact pg.mk' (w:=w) (g:=⟨x,Mo.gL xs t,Mo.dC,[⟨t,⟨y.seq,i,0,va⟩⟩]⟩) (kt.out) rfl lS Js WO (fun b hb _=>by injection hb with hb;subst hb;exact hYz) (aS _) fy
end
theorem tD(A:Option Addr)(c m:Nat):mf A c m 1=lT A c m:=by unfold mf lT;rw[Nat.mul_one]
section
variable(w:World)
theorem Nl(x:Mo.Ch)(B:Option Addr)(bl d:Nat)(hbl:bl=x.buf.length)(PN:bl<=90000)(hb0:bC w .i64 B x.buf)(A:Option Addr)(c:Nat)(xs:List Mo.Wt)(hn:n=xs.length)(hl:n<=90000)(hr:fX w A xs)(hc:∀x∈xs,x.cases.length<=90000)(hd:Int)(sS:x.buf≠[]\/(Mo.dX xs 1 hd).isSome=true) :
 Calls prog 306 #[.agg #[x.gen,x.cap,x.used,x.closed,.slice B bl d],hd,.slice A n c] w (pg (Mo.nZ x hd xs) n w):=by
 have WG:=aa sS
 clear sS
 have pW:=aa (fun wx (hb:Below w w wx)=>kW wx x B bl d hbl (by omega) (hb0.below hb))
 have nh:=aa (fun wx (hb:Below w w wx)=>jQ wx A c xs hn (by omega) (hr.jl aP hb) (fun x hx=>bm (hc x hx) (by omega)) 1 hd)
 have oa:=aa (fun wx (hb:Below w w wx)=>ib wx A c xs hn (by omega) (hr.jl aP hb) (fun x hx=>bm (hc x hx) (by omega)))
 have PO:=aa (fun wx (hb:Below w w wx) (j:Nat) (x:Mo.Wt) hx jN=>rT wx A c xs hn (by omega) (hr.jl aP hb) (fun x hx=>bm (hc x hx) (by omega)) (j:=j) (x:=x) hx jN)
 have HEN:=aa (fun wx (hb:Below w w wx) (t:Nat) (x:Mo.Wt) hx (wh co va:Int)=>tB wx A c xs hn (hr.jl aP hb) (t:=t) (x:=x) hx wh co va)
 have EB:=aa (fun wx (hb:Below w w wx) (t:Nat) (x:Mo.Wt) hx=>fX.row (hr.jl aP hb) (j:=t) (x:=x) hx)
 have kt:=aa hbl
 have HN:=aa hn
 unfold WE at pW
 rw[<-hbl]at pW
 clear hbl hb0 hn hr hc
 have bG:Hid (Below w w (((w.alloc (qZ x B bl d)).alloc pS).alloc ij)):=ak (ak (ak (aj w) _) _) _
 have kK:Hid (af (((w.alloc (qZ x B bl d)).alloc pS).alloc ij) (w.heap.size+1) 83 #[oZ,oZ,false,false,oN]):=(af.newAt _ _ _ (by simp)).alloc _
 have ir:Hid (af (((w.alloc (qZ x B bl d)).alloc pS).alloc ij) (w.heap.size+1+1) 48 #[oZ,oZ,oZ,oZ]):=(af.newAt _ _ _ (by simp))
 go_enter func306,ntmps306
 go_wp2_with fail
 (with_reducible refine(pW.out _ bG.out).mono ?_)
 rintro e w1 ⟨v,rfl,B1,d1,rfl,eo,hb1⟩
 have Ij:=kK.out.ag hb1
 have Jq:=ir.out.lt
 have Ca:w.heap.size+1+1<w1.heap.size:=(ir.out.ag hb1).lt
 have bj:=aa (ak (ag bG.out hb1) (qZ x B1 bl d1));have iE:=aa (Ij.alloc (qZ x B1 bl d1));have gI:=aa ((ir.out.ag hb1).alloc (qZ x B1 bl d1))
 have jO:=aa (aL.alloc (aL.weak eo bG.out.size) (qZ x B1 bl d1))
 have fh:=aa (af.new w1 83 #[x.gen,x.cap,x.used,x.closed,.slice B1 bl d1])
 clear eo hb1 Ij kK ir bG pW Jq
 go_wp2_with fail
 (with_reducible refine(nh.out _ bj.out).mono ?_)
 rintro e w2 ⟨T,W,ok,rfl,hf,hb2⟩
 have bq:=aa (ag bj.out hb2);have gp:=aa (iE.out.ag hb2);have g9:=aa (gI.out.ag hb2);have jv:=aa (fh.out.ag hb2);have eu:=aa (aL.ag jO.out hb2)
 have HF:=aa hf
 clear hf hb2 nh iE gI bj fh jO
 rcases ok with _|_
 ·have hnone:Mo.dX xs 1 hd=none:=by
   have:=HF.out.1;cases hh:Mo.eU xs 1 hd xs.length with
   |none=>exact hh
   |some p=>rw[hh]at this;cases this
  have hne:x.buf≠[]:=WG.out.resolve_right (by rw[hnone];decide)
  obtain⟨v0,rest,wS⟩:∃v0 rest,x.buf=v0::rest:=by
   cases hh:x.buf with
   |nil=>exact absurd hh hne
   |cons a l=>exact⟨a,l,rfl⟩
  have HG:Hid (Mo.nZ x hd xs=⟨{x with buf:=rest},xs,⟨0,0,0,v0⟩,[]⟩):=by unfold Hid Mo.nZ;rw[hnone];dsimp only;rw[wS];rfl
  have RI:=kt.out
  rw[wS]at RI
  have aav:0<bl:=by rw[RI];simp
  have ju:bl-1=rest.length:=by rw[RI];simp
  obtain⟨hrd1,sR⟩:=eu.out.pU
  have rK:=(aL.cap eu.out).2
  obtain⟨ad,v0',hA,hv0,hcell⟩:=bC.at_ sR (i:=0) (by rw[wS];simp)
  rw[wS]at hv0
  injection hv0 with hv0
  subst hv0 hA
  have EN:w2.cell? ad=some v0:=hcell
  have PA:=fun w'=>jt (P:=prog) 22 3 underlying22 fc (some ad) bl d1 1 1 rfl (by omega) w'
  have gu:=aa (fun w' (hb:Below w2 w2 w')=>gq w' (mf (some ad) d1 1 1) (d1-1) rest ju (by omega) (by
   have:=bC.from (sR.below hb) (by rw[<-kt.out];exact rK) 1;rw[wS]at this;rw[tD];exact this))
  clear hnone hne wS RI hrd1 sR hcell
  have xE:=aa ju
  clear ju
  obtain⟨fU,hfk,-⟩:=af.aK jv.out
  have km:=af.lt jv.out
  go_wp2_with fail
  (with_reducible refine(gu.out _ (aj _)).mono ?_)
  rintro e w3 ⟨A4,c4,rfl,hd4,xT,hb4⟩
  have hk4:=jv.out.ag hb4
  have tu:=gp.out.ag hb4
  have hr4:=g9.out.ag hb4
  obtain⟨BM,BN,Ng⟩:=af.aK hk4
  have Ad:=aa hk4;have lQ:=aa tu;have jY:=aa hr4;have fJ:=aa (ag bq.out hb4);have kV:=aa (aL.weak xT bq.out.size)
  clear xT hb4 hd4 hk4 tu hr4 fU hfk km EN PA gu
  go_wp2_with fail
  have oc:=Ad.out.bb 4 (.slice A4 (bl-1) c4)
  have jm:=lQ.out.far (p:=⟨w1.heap.size,4,none⟩) (by show w.heap.size+1≠w1.heap.size;omega) (.slice A4 (bl-1) c4)
  have MD:=jY.out.far (p:=⟨w1.heap.size,4,none⟩) (by show w.heap.size+1+1≠w1.heap.size;omega) (.slice A4 (bl-1) c4)
  have Dq:aL _ w.heap.size 3 .i64 (.slice A4 (bl-1) c4) rest:=bB kV.out Ad.out (by decide) 4 (.slice A4 (bl-1) c4)
  have di:=fJ.out.setCell (p:=⟨w1.heap.size,4,none⟩) (by show w.heap.size<=w1.heap.size;omega) (.slice A4 (bl-1) c4)
  generalize Dw:w3.setCell ⟨w1.heap.size,4,none⟩ (.slice A4 (bl-1) c4)=w5 at *
  have iW:=aa di.drew;have pX:Hid (af w5.drew _ _ _):=jm;have jd:Hid (af w5.drew _ _ _):=MD;have xD:Hid (af w5.drew _ _ _):=oc;have rL:=aa (aL.ag Dq (aj w5).drew)
  have EM:=fun i=>af.cell oc i
  have Nh:=af.lt oc
  clear Dw oc jm MD Dq di BM BN Ng Ad lQ jY fJ kV jv gp g9 bq eu
  go_region_law(first
   |(go_simp;go_at_call 272;(with_reducible refine(oa.out _ iW.out).mono ?_);rintro e w6 ⟨v,rfl,A6,c6,rfl,Q7,fO⟩;have RH:=xD.out.ag fO;have KL:=pX.out.ag fO;have KM:=jd.out.ag fO;have Ni:=fun i=>af.cell RH i;have WH:=fun i=>af.cell KL i;have WJ:=fun i=>af.free KL i;have WK:=fun i=>af.cell KM i;have WL:=fun i=>af.free KM i;have Nj:=RH.lt;have WM:=KL.lt;have WN:=KM.lt;go_wp2_with fail))
  all_goals
   go_wp2_with fail;have hB6:=ag iW.out fO;have Y0:=aL.ag rL.out fO;have hW6:=Q7.weak (base':=w.heap.size) iW.out.size;clear Ni WH WJ WK WL Nj WM WN EM Nh;obtain⟨TW,dZ,xY⟩:=Two.mk' (v1:=[x.gen,x.cap,x.used,x.closed,.slice A4 (bl-1) c4]) (v2:=[oZ,oZ,oZ,v0]) KL KM (by omega) rfl rfl;have lS:=TW.own Y0 (by decide) (by decide);have Js:=TW.wP aP hW6 (by decide) (by decide) (by decide) (by decide);have fy:=TW.below rfl hB6 (by omega) (by omega);change bodyPost _ _ _ _ _ (av (av w6 (w.heap.size+1) 0 [x.gen,x.cap,x.used,x.closed,.slice A4 (bl-1) c4]) (w.heap.size+1+1) 0 [oZ,oZ,oZ,v0]);generalize av (av w6 (w.heap.size+1) 0 [x.gen,x.cap,x.used,x.closed,.slice A4 (bl-1) c4]) (w.heap.size+1+1) 0 [oZ,oZ,oZ,v0]=wz at *;have mD:=fun i=>af.cell dZ i;have pj:=fun i=>af.cell xY i;refine bodyPost_ret (v:=.tuple #[.agg #[x.gen,x.cap,x.used,x.closed,.slice A4 (bl-1) c4],.slice A6 n c6,.agg #[oZ,oZ,oZ,v0],oN]) ?_ rfl ?_
   ·simp[results,results306,go_sem,mD,pj]
   ·rw[HG.out];exact pg.mk' (w:=w) (g:=⟨{x with buf:=rest},xs,⟨0,0,0,v0⟩,[]⟩) (xE.out) (rfl) lS Js (Rd.nil _ _) (fun b hb=>by cases hb) (aS _) fy
 ·obtain⟨⟨t,i⟩,hti⟩:=Option.isSome_iff_exists.1 HF.out.1.symm;obtain⟨hT,hW,_⟩:=HF.out.2 t i hti;obtain⟨y,hy,hyw⟩:=nV hti;obtain⟨jN,⟨k1,k2,va⟩,Y1,_⟩:=GV hyw;obtain⟨v0,rest,wS⟩:∃v0 rest,x.buf++[va]=v0::rest:=by
   cases hh:x.buf with
   |nil=>exact⟨va,[],rfl⟩
   |cons a l=>exact⟨a,l++[va],rfl⟩
  have ju:bl=rest.length:=by have h1:=congrArg List.length wS;have h2:=kt.out;simp at h1;omega
  have HG:Hid (Mo.nZ x hd xs=⟨{x with buf:=rest},Mo.gL xs t,⟨0,0,0,v0⟩,[⟨t,⟨y.seq,i,0,0⟩⟩]⟩):=by
   have h1:Mo.dX xs 1 hd=some (t,i):=hti;have h2:xs.getD t Mo.gK=y:=by rw[eR,hy];rfl
   have h3:y.cases.getD i (0,0,0)=(k1,k2,va):=by rw[eR,Y1];rfl
   unfold Hid Mo.nZ;rw[h1];dsimp only;rw[h2,h3];dsimp only;rw[wS];unfold Mo.nE;rw[h2];rfl
  subst hT hW;obtain⟨ad,D,dd,hA,_,hRd,c0,c1,c2,c3⟩:=EB.out w2 bq.out t y hy;have RG:t<n:=by rw[HN.out];exact cE hy
  have vE:i<y.cases.length:=cE Y1;obtain⟨kd,kk,hD,EO,hkc⟩:=cN.at_ eZ (by decide) hRd vE;rw[Y1]at EO;injection EO with EO
  subst EO;have Y2:=hkc 2 _ rfl;rw[add_lit _ _ (by decide)]at Y2;subst hA hD;have HY:=aa hy;have Ur:=aa jN;have acX:=aa wS;have xE:=aa ju;obtain⟨cl,lO⟩:∃cl,cl=y.cases.length:=⟨_,rfl⟩
  rw[<-lO]at vE c3;have i1:(0:Int)<=(i:Int):=by omega
  have i2:(i:Int)<(cl:Int):=by omega
  have i3:(0:Int)<=(t:Int):=by omega
  have i4:(t:Int)<(n:Int):=by omega
  clear hti hy hyw jN Y1 wS ju hRd hkc c0 c1 c2 lO;have aaR:=aL.ag eu.out (aj w2).drew;have aaS:=jv.out.drewN 1;have aaT:=gp.out.drewN 1;have aaU:=g9.out.drewN 1;have aaV:=bq.out.drew;have WQ:=aa aaR;have aaW:Hid (af w2.drew w1.heap.size 83 #[x.gen,x.cap,x.used,x.closed,.slice B1 bl d1]):=aaS;have aaX:Hid (af w2.drew (w.heap.size+1) 83 #[oZ,oZ,false,false,oN]):=aaT;have aaY:Hid (af w2.drew (w.heap.size+1+1) 48 #[oZ,oZ,oZ,oZ]):=aaU;have aaZ:=aa aaV;clear aaR aaS aaT aaU aaV;obtain⟨fU,hfk,-⟩:=af.aK jv.out;have km:=af.lt jv.out;go_wp2_with fail;go_region_law(first
   |(refine mK rfl _ _ 22 rfl w.heap.size 3 .i64 underlying22 fc _ x.buf rfl ?_ w2.heap.size 1 1 [va] rfl rfl ?_ ?_ ?_ ?_;(exact aL.alloc WQ.out _);(exact bC.one _ .i64 _ _);(rw[<-kt.out];simp;omega);(have:=bq.out.size;simp;omega);intro v4 w4 bX bg hzz;clear hzz;obtain⟨A4,c4,hv4⟩:=bX.shape;rw[eN,gC, <-kt.out]at hv4;subst hv4;have mA:=aL.alloc WQ.out (.cells #[va] 3);have hk3:=aaW.out.alloc (.cells #[va] 3);have rN:=aaX.out.alloc (.cells #[va] 3);have hr3:=aaY.out.alloc (.cells #[va] 3);have hk4:=hk3.grown bg (aV mA hk3 (by decide));have tu:=rN.grown bg (aV mA rN (by decide));have hr4:=hr3.grown bg (aV mA hr3 (by decide));have hb4:=aL.br mA (ak aaZ.out (.cells #[va] 3)) bg (by have:=bq.out.size;simp;omega) (aS _);have BM:=fun i=>af.cell hk4 i;have BN:=fun i=>af.free hk4 i;have Ng:=hk4.lt;have Ad:=aa hk4;have lQ:=aa tu;have jY:=aa hr4;have fJ:=aa hb4;have kV:=aa bX;clear bX bg mA hk3 rN hr3 hk4 tu hr4 hb4;go_wp2_with fail))
  all_goals
   clear fU hfk km c3 Y2 i1 i2 i3 i4;have oc:=Ad.out.bb 4 (.slice A4 (bl+1) c4);have jm:=lQ.out.far (p:=⟨w1.heap.size,4,none⟩) (by show w.heap.size+1≠w1.heap.size;omega) (.slice A4 (bl+1) c4);have MD:=jY.out.far (p:=⟨w1.heap.size,4,none⟩) (by show w.heap.size+1+1≠w1.heap.size;omega) (.slice A4 (bl+1) c4);have Dq:aL _ w.heap.size 3 .i64 (.slice A4 (bl+1) c4) (x.buf++[va]):=bB kV.out Ad.out (by decide) 4 (.slice A4 (bl+1) c4);have di:=fJ.out.setCell (p:=⟨w1.heap.size,4,none⟩) (by show w.heap.size<=w1.heap.size;omega) (.slice A4 (bl+1) c4);generalize Dw:w4.setCell ⟨w1.heap.size,4,none⟩ (.slice A4 (bl+1) c4)=w5 at *;rw[acX.out]at Dq;obtain⟨hrd1,sR⟩:=aL.pU Dq;have rK:=(aL.cap Dq).2;obtain⟨ad5,v0',hA,hv0,hcell⟩:=bC.at_ sR (i:=0) (by simp);injection hv0 with hv0
   subst hv0 hA;have EN:w5.cell? ad5=some v0:=hcell;have PA:=fun w'=>jt (P:=prog) 22 3 underlying22 fc (some ad5) (bl+1) c4 1 1 rfl (by omega) w';have gu:=aa (fun w' (hb:Below w5 w5 w')=>gq w' (mf (some ad5) c4 1 1) (c4-1) rest xE.out (by omega) (by
    have:=bC.from (c:=c4) (sR.below hb) (by simp;have:=xE.out;omega) 1;rw[tD];exact this))
   have xD:=aa oc;have pX:=aa jm;have jd:=aa MD;have iW:=aa di;obtain⟨EM,hfk5,-⟩:=af.aK oc;have Nh:=af.lt oc;clear Dw oc jm MD di Dq hrd1 sR rK hcell BM BN Ng Ad lQ jY fJ kV jv gp g9 bq eu aaW aaX aaY aaZ WQ;go_wp2_with fail;(with_reducible refine(gu.out _ (aj _)).mono ?_);rintro e w6 ⟨A6,c6,rfl,hd6,Q7,fO⟩;have RH:=xD.out.ag fO;have KL:=pX.out.ag fO;have KM:=jd.out.ag fO;obtain⟨Ni,hfk6,Nj⟩:=af.aK RH;have HK6:=aa RH;have Us:=aa KL;have KN:=aa KM;have wT:=aa (ag iW.out fO);have PR:=aa (aL.weak Q7 iW.out.size);clear Q7 fO hd6 RH KL KM EM hfk5 Nh EN PA gu xD pX jd iW;have HE:=aa (fun wx hb=>HEN.out wx hb t y HY.out i 0 0);have HC:=aa (fun wx hb=>PO.out wx hb t y HY.out Ur.out);go_wp2_with fail;have Np:=HK6.out.bb 4 (.slice A6 bl c6);have hq7:=Us.out.far (p:=⟨w1.heap.size,4,none⟩) (by show w.heap.size+1≠w1.heap.size;omega) (.slice A6 bl c6);have Ut:=KN.out.far (p:=⟨w1.heap.size,4,none⟩) (by show w.heap.size+1+1≠w1.heap.size;omega) (.slice A6 bl c6);have WR:aL _ w.heap.size 3 .i64 (.slice A6 bl c6) rest:=bB PR.out HK6.out (by decide) 4 (.slice A6 bl c6);have uR:=wT.out.setCell (p:=⟨w1.heap.size,4,none⟩) (by show w.heap.size<=w1.heap.size;omega) (.slice A6 bl c6);generalize hw7:w6.setCell ⟨w1.heap.size,4,none⟩ (.slice A6 bl c6)=w7 at *;have HK7:=aa Np;have HQ7:=aa hq7;have xZ:=aa Ut;have PS:=aa uR;have Nq:=aa WR;clear hw7 Np hq7 Ut uR WR Ni hfk6 Nj HK6 Us KN wT PR;(with_reducible refine(HE.out _ PS.out).mono ?_);rintro e w3 ⟨rfl,hb3⟩;have bZ:=aa (ak (ag PS.out hb3) (.cells #[t,y.seq,i,oZ,oZ] 229));have jc:=aa ((HQ7.out.ag hb3).alloc (.cells #[t,y.seq,i,oZ,oZ] 229));have fx:=aa ((xZ.out.ag hb3).alloc (.cells #[t,y.seq,i,oZ,oZ] 229));have qE:=aa ((HK7.out.ag hb3).alloc (.cells #[t,y.seq,i,oZ,oZ] 229));have iP:=aa (aL.alloc (aL.ag Nq.out hb3) (.cells #[t,y.seq,i,oZ,oZ] 229));have ue:=aa (af.new w3 229 #[t,y.seq,i,oZ,oZ]);have Lr:w1.heap.size<w3.heap.size:=(HK7.out.ag hb3).lt;clear hb3;go_wp2_with fail;(with_reducible refine(HC.out _ bZ.out).mono ?_);rintro e w8 ⟨v,rfl,A8,c8,rfl,Ue,AW⟩;have hq8:=jc.out.ag AW;have hr8:=fx.out.ag AW;have hk8:=qE.out.ag AW;have ht8:=ue.out.ag AW;have Uu:=aa (ag bZ.out AW);have Ri:=aa (aL.ag iP.out AW);have HW8:=aa (Ue.weak (base':=w.heap.size) bZ.out.size);obtain⟨dh,cW,-⟩:=af.aK hq8;have cY:=af.lt hq8;obtain⟨jG,si,-⟩:=af.aK hr8;have hgr:=af.lt hr8;have fU:=fun i=>af.cell hk8 i;have km:=af.lt hk8;have Nk:=fun i=>af.cell ht8 i;have uE:=af.lt ht8;have HQ8:=aa hq8;have HR8:=aa hr8;clear hq8 hr8 hk8 ht8 Ue AW bZ jc fx qE iP ue HK7 HQ7 xZ PS Nq HE HC;go_wp2_with fail;go_region;all_goals
    go_wp2_with fail;clear dh cW cY jG si hgr fU km Nk uE;obtain⟨TW,dZ,xY⟩:=Two.mk' (v1:=[x.gen,x.cap,x.used,x.closed,.slice A6 bl c6]) (v2:=[oZ,oZ,oZ,v0]) HQ8.out HR8.out (by omega) rfl rfl;have hD:Below _ (av (av w8 (w.heap.size+1) 0 [x.gen,x.cap,x.used,x.closed,.slice A6 bl c6]) (w.heap.size+1+1) 0 [oZ,oZ,oZ,v0]) (((av (av w8 (w.heap.size+1) 0 [x.gen,x.cap,x.used,x.closed,.slice A6 bl c6]) (w.heap.size+1+1) 0 [oZ,oZ,oZ,v0]).alloc (.cells #[t,y.seq,i,oZ,oZ] 229)).drew):=(ak (aj (av (av w8 (w.heap.size+1) 0 [x.gen,x.cap,x.used,x.closed,.slice A6 bl c6]) (w.heap.size+1+1) 0 [oZ,oZ,oZ,v0])) (.cells #[t,y.seq,i,oZ,oZ] 229)).drew;have lS:=aL.ag (TW.own Ri.out (by decide) (by decide)) hD;have Js:=(TW.wP aP HW8.out (by decide) (by decide) (by decide) (by decide)).jl aP hD;have fy:=ag (TW.below rfl Uu.out (by omega) (by omega)) hD;have dZ:=dZ.ag hD;have xY:=xY.ag hD;have tC:Rd ((av (av w8 (w.heap.size+1) 0 [x.gen,x.cap,x.used,x.closed,.slice A6 bl c6]) (w.heap.size+1+1) 0 [oZ,oZ,oZ,v0]).alloc (.cells #[t,y.seq,i,oZ,oZ] 229)) w8.heap.size [t,y.seq,i,oZ,oZ]:=Rd.Bd (av (av w8 (w.heap.size+1) 0 [x.gen,x.cap,x.used,x.closed,.slice A6 bl c6]) (w.heap.size+1+1) 0 [oZ,oZ,oZ,v0]) [t,y.seq,i,oZ,oZ] 229 (by rw[bw,bw]);have WO:=tC.below (aj _).drew;have hY0:Ty ((av (av w8 (w.heap.size+1) 0 [x.gen,x.cap,x.used,x.closed,.slice A6 bl c6]) (w.heap.size+1+1) 0 [oZ,oZ,oZ,v0]).alloc (.cells #[t,y.seq,i,oZ,oZ] 229)) 229 w8.heap.size:=⟨_,_,af.newAt (av (av w8 (w.heap.size+1) 0 [x.gen,x.cap,x.used,x.closed,.slice A6 bl c6]) (w.heap.size+1+1) 0 [oZ,oZ,oZ,v0]) 229 #[t,y.seq,i,oZ,oZ] (by rw[bw,bw])⟩
    have hYz:=hY0.below (aj _).drew;clear tC hY0;change bodyPost _ _ _ _ _ (((av (av w8 (w.heap.size+1) 0 [x.gen,x.cap,x.used,x.closed,.slice A6 bl c6]) (w.heap.size+1+1) 0 [oZ,oZ,oZ,v0]).alloc (.cells #[t,y.seq,i,oZ,oZ] 229)).drew);clear hD TW;generalize((av (av w8 (w.heap.size+1) 0 [x.gen,x.cap,x.used,x.closed,.slice A6 bl c6]) (w.heap.size+1+1) 0 [oZ,oZ,oZ,v0]).alloc (.cells #[t,y.seq,i,oZ,oZ] 229)).drew=wz at *;have mD:=fun i=>af.cell dZ i;have pj:=fun i=>af.cell xY i;refine bodyPost_ret (v:=.tuple #[.agg #[x.gen,x.cap,x.used,x.closed,.slice A6 bl c6],.slice A8 n c8,.agg #[oZ,oZ,oZ,v0],.slice w8.heap.size 1 1]) ?_ rfl ?_
    ·simp[results,results306,go_sem,mD,pj]
    ·rw[HG.out];exact pg.mk' (w:=w) (g:=⟨{x with buf:=rest},Mo.gL xs t,⟨0,0,0,v0⟩,[⟨t,⟨y.seq,i,0,0⟩⟩]⟩) (xE.out) rfl lS Js WO (fun b hb _=>by injection hb with hb;subst hb;exact hYz) (aS _) fy
end
structure kz (g:Mo.vh) (n base:Nat) (w':World) (B:Option Addr) (d:Nat) (A:Option Addr) (c:Nat) (D:Option Addr) (dd:Nat):Prop where
 pU:bC w' .i64 B g.c.buf
 PT:∀b,B=some b->g.c.buf≠[]->Ty w' 3 b.block
 cap:g.c.buf.length<=d
 own:ko w' base (.slice A n c) g.l
 WS:cN w' mg D g.told
 Nr:∀b,D=some b->g.told≠[]->Ty w' 229 b.block
 Jt:g.told.length<=dd
theorem Two.rd{r:Nat}(T:Two w w' q r t1 t2){xs:List Value}{e:TypeId}(h:Rd w A xs)(ht:∀b,A=some b->xs≠[]->Ty w e b.block)(h1:e≠t1)(h2:e≠t2):Rd w' A xs:=by
 intro i u hu;obtain⟨ad,ha,hc⟩:=h i u hu;have hne:xs≠[]:=by rintro rfl;simp at hu
 refine⟨ad,ha,?_⟩;have hb:(ad.add i).block=ad.block:=by unfold Addr.add;split<;>rfl
 have:=(T.ty (ht ad ha hne) h1 h2).2;unfold World.cell? at hc ⊢;rw[hb]at hc ⊢;rw[this];exact hc
theorem kz.two{g:Mo.vh}{c r:Nat}(h:kz g n base w B d A c D dd)(T:Two w w' q r 83 48):kz g n base w' B d A c D dd :=
 ⟨T.rd h.pU (fun b hb hne=>h.PT b hb (fun he=>hne (by rw[he];rfl))) ah ah,fun b hb hne=>(T.ty (h.PT b hb hne) ah ah).1,h.cap,T.wP aP h.own ah ah ah ah,
  T.rd h.WS (fun b hb hne=>h.Nr b hb (fun he=>hne (by rw[he];rfl))) ah ah,fun b hb hne=>(T.ty (h.Nr b hb hne) ah ah).1,h.Jt⟩
theorem kz.weak{g:Mo.vh}{base':Nat}{c:Nat}(h:kz g n base w B d A c D dd)(hb:base'<=base):kz g n base' w B d A c D dd:=⟨h.pU,h.PT,h.cap,h.own.weak hb,h.WS,h.Nr,h.Jt⟩
theorem kz.more{g:Mo.vh}{c:Nat}(h:kz g n base w B d A c D dd)(hb:Below w w w'):kz g n base w' B d A c D dd:=⟨h.pU.below hb,fun b h1 h2=>(h.PT b h1 h2).below hb,h.cap,h.own.jl aP hb,h.WS.below hb,fun b h1 h2=>(h.Nr b h1 h2).below hb,h.Jt⟩
theorem kz.e{g:Mo.vh}{c:Nat}(h:kz g n w.heap.size w' B d A c D dd)(hB:Below w w w') :
 pg g n w (.returned (.tuple #[.agg #[g.c.gen,g.c.cap,g.c.used,g.c.closed,.slice B g.c.buf.length d],.slice A n c,.agg #[g.r.seq,g.r.cs,g.r.code,g.r.value],.slice D g.told.length dd])) w' :=
 ⟨B,d,A,c,D,dd,rfl,h.pU,h.PT,h.cap,h.own,h.WS,h.Nr,h.Jt,hB⟩
theorem pg.p{g:Mo.vh}{e:Ending}(h:pg g n w e w'):∃B d A c D dd,e=.returned (.tuple #[.agg #[g.c.gen,g.c.cap,g.c.used,g.c.closed,.slice B g.c.buf.length d],.slice A n c,.agg #[g.r.seq,g.r.cs,g.r.code,g.r.value],.slice D g.told.length dd])/\kz g n w.heap.size w' B d A c D dd/\Below w w w':=by obtain⟨B,d,A,c,D,dd,rfl,h1,h2,h3,h4,h5,h6,h7,h8⟩:=h;exact⟨B,d,A,c,D,dd,rfl,⟨h1,h2,h3,h4,h5,h6,h7⟩,h8⟩
section
variable(w:World)
theorem RJ(x:Mo.Ch)(B:Option Addr)(bl d:Nat)(hbl:bl=x.buf.length)(PN:bl<=90000)(hb0:bC w .i64 B x.buf)(A:Option Addr)(c:Nat)(xs:List Mo.Wt)(hn:n=xs.length)(hl:n<=90000)(hr:fX w A xs)(hc:∀x∈xs,x.cases.length<=90000)(hd:Int)(va:Int)(hu:x.used=true)(jD:Mo.dH x hd xs 1=true) :
 Calls prog 294 #[.agg #[x.gen,x.cap,x.used,x.closed,.slice B bl d],hd,.slice A n c,.int .i64 1,va] w (pg (Mo.xK x hd xs 1 va) n w):=by
 have pW:=aa (fun wx (hb:Below w w wx)=>kW wx x B bl d hbl ae (hb0.below hb))
 have nh:=aa (fun wx (hb:Below w w wx)=>jQ wx A c xs hn ae (hr.jl aP hb) (fun x hx=>bm (hc x hx) ae) 1 hd)
 have oa:=aa (fun wx (hb:Below w w wx)=>ib wx A c xs hn ae (hr.jl aP hb) (fun x hx=>bm (hc x hx) ae))
 have lB:=aa (fun wx (hb:Below w w wx)=>wM wx x B bl d hbl hu A c xs hn ae (hr.jl aP hb) (fun x hx=>bm (hc x hx) ae) hd)
 have Y3:=aa (fun wx (hb:Below w w wx)=>(Nf wx x B bl d hbl PN (hb0.below hb) A c xs hn hl (hr.jl aP hb) hc hd va))
 have kt:=aa hbl
 have RL:=aa (show Mo.xK x hd xs 1 va=_ from rfl)
 unfold Mo.xK at RL
 rw[jD]at lB RL
 unfold WE at pW
 rw[<-hbl]at pW
 have Ju:=aa jD
 clear hbl hb0 hn hr hc jD
 obtain⟨ge,cp,us,cl,bf⟩:=x
 have WT:us=true:=hu
 subst WT
 clear hu
 dsimp only at *
 have bG:Hid (Below w w (((w.alloc (.cells #[ge,cp,true,cl,.slice B bl d] 83)).alloc pS).alloc ij)):=ak (ak (ak (aj w) _) _) _
 have gV:Hid (af (((w.alloc (.cells #[ge,cp,true,cl,.slice B bl d] 83)).alloc pS).alloc ij) w.heap.size 83 #[ge,cp,true,cl,.slice B bl d]):=((af.new _ _ _).alloc _).alloc _
 have kK:Hid (af (((w.alloc (.cells #[ge,cp,true,cl,.slice B bl d] 83)).alloc pS).alloc ij) (w.heap.size+1) 83 #[oZ,oZ,false,false,oN]):=(af.newAt _ _ _ aF).alloc _
 have ir:Hid (af (((w.alloc (.cells #[ge,cp,true,cl,.slice B bl d] 83)).alloc pS).alloc ij) (w.heap.size+1+1) 48 #[oZ,oZ,oZ,oZ]):=(af.newAt _ _ _ aF)
 go_enter func294,ntmps294
 go_wp2_with fail
 refine(nh _ bG).mono ?_
 rintro e w1 ⟨T,W,ok,rfl,hf,hb1⟩
 have bj:=aa (ag bG hb1);have iE:=aa (kK.ag hb1);have gI:=aa (ir.ag hb1);have fh:=aa (gV.ag hb1)
 have WU:Hid (ok=(Mo.dX xs 1 hd).isSome):=pK hf
 clear hf hb1 nh
 have fU:=fun i=>af.cell fh i
 have km:=af.lt fh
 go_wp2_with fail
 refine(lB _ bj).mono ?_
 rintro e w2 ⟨rfl,hb2⟩
 have bq:=aa (ag bj hb2);have gp:=aa (iE.ag hb2);have g9:=aa (gI.ag hb2);have jv:=aa (fh.ag hb2)
 clear hb2 fU km lB
 have fU:=fun i=>af.cell jv i
 have km:=af.lt jv
 rcases lO:cl with _|_
 ·have HG:Hid (Mo.xK ⟨ge,cp,true,cl,bf⟩ hd xs 1 va=Mo.nY ⟨ge,cp,true,cl,bf⟩ hd xs va):=by unfold Hid Mo.xK;rw[Ju.out,lO];rfl
  obtain⟨g,hg⟩:=aD (Mo.nY ⟨ge,cp,true,cl,bf⟩ hd xs va);rw[<-hg]at HG Y3;rw[lO]at fU Y3;have GW:=aa hg;clear hg;have gu:=aa lO;subst lO;go_wp2_with fail;refine(Y3 _ bq).mono ?_;rintro e w3 he;obtain⟨B3,d3,A3,c3,D3,dd3,rfl,ED,hb3⟩:=he.p;clear he;have rN:=gp.ag hb3;have hr3:=g9.ag hb3;have oU:=ag bq hb3;obtain⟨dh,cW,cY⟩:=af.aK rN;obtain⟨jG,si,hgr⟩:=af.aK hr3;have KO:=aa (ED.weak bq.size);have jc:=aa rN;have fx:=aa hr3;have bZ:=aa oU;clear ED hb3 rN hr3 oU;go_wp2_with fail;obtain⟨TW,dZ,xY⟩:=Two.mk' (v1:=[g.c.gen,g.c.cap,g.c.used,g.c.closed,.slice B3 g.c.buf.length d3]) (v2:=[g.r.seq,g.r.cs,g.r.code,g.r.value]) jc fx ae rfl rfl;have hPz:=KO.two TW;have fy:=TW.below rfl bZ ae ae;change bodyPost _ _ _ _ _ (av (av w3 (w.heap.size+1) 0 [g.c.gen,g.c.cap,g.c.used,g.c.closed,.slice B3 g.c.buf.length d3]) (w.heap.size+1+1) 0 [g.r.seq,g.r.cs,g.r.code,g.r.value]);clear TW dh cW cY jG si hgr;generalize av (av w3 (w.heap.size+1) 0 [g.c.gen,g.c.cap,g.c.used,g.c.closed,.slice B3 g.c.buf.length d3]) (w.heap.size+1+1) 0 [g.r.seq,g.r.cs,g.r.code,g.r.value]=wz at *;have mD:=fun i=>af.cell dZ i;have pj:=fun i=>af.cell xY i;refine bodyPost_ret (v:=.tuple #[.agg #[g.c.gen,g.c.cap,g.c.used,g.c.closed,.slice B3 g.c.buf.length d3],.slice A3 n c3,.agg #[g.r.seq,g.r.cs,g.r.code,g.r.value],.slice D3 g.told.length dd3]) ?_ rfl ?_
  ·simp[results,results294,go_sem,mD,pj]
  ·rw[HG.out];exact hPz.e fy
 ·subst lO;have HG:Hid (Mo.xK ⟨ge,cp,true,true,bf⟩ hd xs 1 va=⟨⟨ge,cp,true,true,bf⟩,xs,Mo.bD 9,[]⟩):=by unfold Hid Mo.xK;rw[Ju.out];rfl
  go_wp2_with fail;refine(pW _ bq).mono ?_;rintro e w3 ⟨v,rfl,B3,d3,rfl,mA,hb3⟩;have jc:=aa (gp.ag hb3);have fx:=aa (g9.ag hb3);have bZ:=aa (ag bq hb3);have iP:=aa (aL.weak mA bq.size);clear mA hb3;go_wp2_with fail;refine(oa _ bZ).mono ?_;rintro e w4 ⟨v,rfl,A4,c4,rfl,xT,hb4⟩;have tu:=jc.ag hb4;have hr4:=fx.ag hb4;obtain⟨dh,cW,cY⟩:=af.aK tu;obtain⟨jG,si,hgr⟩:=af.aK hr4;have lQ:=aa tu;have jY:=aa hr4;have fJ:=aa (ag bZ hb4);have kV:=aa (aL.ag iP hb4);have PQ:=aa (xT.weak (base':=w.heap.size) bZ.size);clear tu hr4 xT hb4;go_wp2_with fail;obtain⟨TW,dZ,xY⟩:=Two.mk' (v1:=[ge,cp,true,true,.slice B3 bl d3]) (v2:=[oZ,oZ,.int .i64 9,oZ]) lQ jY ae rfl rfl;have lS:=TW.own kV ah ah;have Js:=TW.wP aP PQ ah ah ah ah;have fy:=TW.below rfl fJ ae ae;change bodyPost _ _ _ _ _ (av (av w4 (w.heap.size+1) 0 [ge,cp,true,true,.slice B3 bl d3]) (w.heap.size+1+1) 0 [oZ,oZ,.int .i64 9,oZ]);clear TW dh cW cY jG si hgr;generalize av (av w4 (w.heap.size+1) 0 [ge,cp,true,true,.slice B3 bl d3]) (w.heap.size+1+1) 0 [oZ,oZ,.int .i64 9,oZ]=wz at *;have mD:=fun i=>af.cell dZ i;have pj:=fun i=>af.cell xY i;refine bodyPost_ret (v:=.tuple #[.agg #[ge,cp,true,true,.slice B3 bl d3],.slice A4 n c4,.agg #[oZ,oZ,.int .i64 9,oZ],oN]) ?_ rfl ?_
  ·simp[results,results294,go_sem,mD,pj]
  ·rw[HG.out];exact pg.mk' (w:=w) (g:=⟨⟨ge,cp,true,true,bf⟩,xs,Mo.bD 9,[]⟩) kt rfl lS Js (Rd.nil _ _) (fun b hb=>by cases hb) (aS _) fy
theorem RM(x:Mo.Ch)(B:Option Addr)(bl d:Nat)(hbl:bl=x.buf.length)(PN:bl<=90000)(hb0:bC w .i64 B x.buf)(A:Option Addr)(c:Nat)(xs:List Mo.Wt)(hn:n=xs.length)(hl:n<=90000)(hr:fX w A xs)(hc:∀x∈xs,x.cases.length<=90000)(hd:Int)(va:Int)(hu:x.used=true)(jD:Mo.dH x hd xs 2=true) :
 Calls prog 294 #[.agg #[x.gen,x.cap,x.used,x.closed,.slice B bl d],hd,.slice A n c,.int .i64 2,va] w (pg (Mo.xK x hd xs 2 va) n w):=by
 have pW:=aa (fun wx (hb:Below w w wx)=>kW wx x B bl d hbl ae (hb0.below hb))
 have nh:=aa (fun wx (hb:Below w w wx)=>jQ wx A c xs hn ae (hr.jl aP hb) (fun x hx=>bm (hc x hx) ae) 1 hd)
 have oa:=aa (fun wx (hb:Below w w wx)=>ib wx A c xs hn ae (hr.jl aP hb) (fun x hx=>bm (hc x hx) ae))
 have lB:=aa (fun wx (hb:Below w w wx)=>wO wx x B bl d hbl hu A c xs hn ae (hr.jl aP hb) (fun x hx=>bm (hc x hx) ae) hd)
 have Y3:=aa (fun wx (hb:Below w w wx)=>(fun sS=>Nl wx x B bl d hbl PN (hb0.below hb) A c xs hn hl (hr.jl aP hb) hc hd sS))
 have kt:=aa hbl
 have RL:=aa (show Mo.xK x hd xs 2 va=_ from rfl)
 unfold Mo.xK at RL
 rw[jD]at lB RL
 unfold WE at pW
 rw[<-hbl]at pW
 have Ju:=aa jD
 clear hbl hb0 hn hr hc jD
 obtain⟨ge,cp,us,cl,bf⟩:=x
 have WT:us=true:=hu
 subst WT
 clear hu
 dsimp only at *
 have bG:Hid (Below w w (((w.alloc (.cells #[ge,cp,true,cl,.slice B bl d] 83)).alloc pS).alloc ij)):=ak (ak (ak (aj w) _) _) _
 have gV:Hid (af (((w.alloc (.cells #[ge,cp,true,cl,.slice B bl d] 83)).alloc pS).alloc ij) w.heap.size 83 #[ge,cp,true,cl,.slice B bl d]):=((af.new _ _ _).alloc _).alloc _
 have kK:Hid (af (((w.alloc (.cells #[ge,cp,true,cl,.slice B bl d] 83)).alloc pS).alloc ij) (w.heap.size+1) 83 #[oZ,oZ,false,false,oN]):=(af.newAt _ _ _ aF).alloc _
 have ir:Hid (af (((w.alloc (.cells #[ge,cp,true,cl,.slice B bl d] 83)).alloc pS).alloc ij) (w.heap.size+1+1) 48 #[oZ,oZ,oZ,oZ]):=(af.newAt _ _ _ aF)
 go_enter func294,ntmps294
 go_wp2_with fail
 refine(nh _ bG).mono ?_
 rintro e w1 ⟨T,W,ok,rfl,hf,hb1⟩
 have bj:=aa (ag bG hb1);have iE:=aa (kK.ag hb1);have gI:=aa (ir.ag hb1);have fh:=aa (gV.ag hb1)
 have WU:Hid (ok=(Mo.dX xs 1 hd).isSome):=pK hf
 clear hf hb1 nh
 have fU:=fun i=>af.cell fh i
 have km:=af.lt fh
 go_wp2_with fail
 refine(lB _ bj).mono ?_
 rintro e w2 ⟨rfl,hb2⟩
 have bq:=aa (ag bj hb2);have gp:=aa (iE.ag hb2);have g9:=aa (gI.ag hb2);have jv:=aa (fh.ag hb2)
 clear hb2 fU km lB
 have fU:=fun i=>af.cell jv i
 have km:=af.lt jv
 by_cases sS:bf≠[]\/(Mo.dX xs 1 hd).isSome=true
 ·have HG:Hid (Mo.xK ⟨ge,cp,true,cl,bf⟩ hd xs 2 va=Mo.nZ ⟨ge,cp,true,cl,bf⟩ hd xs):=by
   have hp:0<bf.length\/(Mo.dX xs 1 hd).isSome=true:=by
    rcases sS with h|h
    ·left;cases bf with
     |nil=>exact absurd rfl h
     |cons a l=>simp
    ·exact .inr h
   unfold Hid Mo.xK;rw[Ju.out,ai ah,ai (fun h=>absurd h.1 ah),au ⟨rfl,hp⟩]
  have WV:=aa (fun wx hb=>Y3 wx hb sS)
  obtain⟨g,hg⟩:=aD (Mo.nZ ⟨ge,cp,true,cl,bf⟩ hd xs)
  rw[<-hg]at HG WV
  have GW:=aa hg
  clear hg Y3
  by_cases hbp:0<bl
  ·have d1:decide ((0:Int)<bl)=true:=dg ae;clear sS;go_wp2_with fail;refine(WV _ bq).mono ?_;rintro e w3 he;obtain⟨B3,d3,A3,c3,D3,dd3,rfl,ED,hb3⟩:=he.p;clear he;have rN:=gp.ag hb3;have hr3:=g9.ag hb3;have oU:=ag bq hb3;obtain⟨dh,cW,cY⟩:=af.aK rN;obtain⟨jG,si,hgr⟩:=af.aK hr3;have KO:=aa (ED.weak bq.size);have jc:=aa rN;have fx:=aa hr3;have bZ:=aa oU;clear ED hb3 rN hr3 oU;go_wp2_with fail;obtain⟨TW,dZ,xY⟩:=Two.mk' (v1:=[g.c.gen,g.c.cap,g.c.used,g.c.closed,.slice B3 g.c.buf.length d3]) (v2:=[g.r.seq,g.r.cs,g.r.code,g.r.value]) jc fx ae rfl rfl;have hPz:=KO.two TW;have fy:=TW.below rfl bZ ae ae;change bodyPost _ _ _ _ _ (av (av w3 (w.heap.size+1) 0 [g.c.gen,g.c.cap,g.c.used,g.c.closed,.slice B3 g.c.buf.length d3]) (w.heap.size+1+1) 0 [g.r.seq,g.r.cs,g.r.code,g.r.value]);clear TW dh cW cY jG si hgr;generalize av (av w3 (w.heap.size+1) 0 [g.c.gen,g.c.cap,g.c.used,g.c.closed,.slice B3 g.c.buf.length d3]) (w.heap.size+1+1) 0 [g.r.seq,g.r.cs,g.r.code,g.r.value]=wz at *;have mD:=fun i=>af.cell dZ i;have pj:=fun i=>af.cell xY i;refine bodyPost_ret (v:=.tuple #[.agg #[g.c.gen,g.c.cap,g.c.used,g.c.closed,.slice B3 g.c.buf.length d3],.slice A3 n c3,.agg #[g.r.seq,g.r.cs,g.r.code,g.r.value],.slice D3 g.told.length dd3]) ?_ rfl ?_
   ·simp[results,results294,go_sem,mD,pj]
   ·rw[HG.out];exact hPz.e fy
  ·have acY:bl=0:=ae;have WW:ok=true:=by
    rw[WU.out];rcases sS with h|h
    ·exfalso;have:=kt.out;cases bf with
     |nil=>exact h rfl
     |cons a l=>simp at this;omega
    ·exact h
   subst WW acY;clear sS;go_wp2_with fail;refine(WV _ bq).mono ?_;rintro e w3 he;obtain⟨B3,d3,A3,c3,D3,dd3,rfl,ED,hb3⟩:=he.p;clear he;have rN:=gp.ag hb3;have hr3:=g9.ag hb3;have oU:=ag bq hb3;obtain⟨dh,cW,cY⟩:=af.aK rN;obtain⟨jG,si,hgr⟩:=af.aK hr3;have KO:=aa (ED.weak bq.size);have jc:=aa rN;have fx:=aa hr3;have bZ:=aa oU;clear ED hb3 rN hr3 oU;go_wp2_with fail;obtain⟨TW,dZ,xY⟩:=Two.mk' (v1:=[g.c.gen,g.c.cap,g.c.used,g.c.closed,.slice B3 g.c.buf.length d3]) (v2:=[g.r.seq,g.r.cs,g.r.code,g.r.value]) jc fx ae rfl rfl;have hPz:=KO.two TW;have fy:=TW.below rfl bZ ae ae;change bodyPost _ _ _ _ _ (av (av w3 (w.heap.size+1) 0 [g.c.gen,g.c.cap,g.c.used,g.c.closed,.slice B3 g.c.buf.length d3]) (w.heap.size+1+1) 0 [g.r.seq,g.r.cs,g.r.code,g.r.value]);clear TW dh cW cY jG si hgr;generalize av (av w3 (w.heap.size+1) 0 [g.c.gen,g.c.cap,g.c.used,g.c.closed,.slice B3 g.c.buf.length d3]) (w.heap.size+1+1) 0 [g.r.seq,g.r.cs,g.r.code,g.r.value]=wz at *;have mD:=fun i=>af.cell dZ i;have pj:=fun i=>af.cell xY i;refine bodyPost_ret (v:=.tuple #[.agg #[g.c.gen,g.c.cap,g.c.used,g.c.closed,.slice B3 g.c.buf.length d3],.slice A3 n c3,.agg #[g.r.seq,g.r.cs,g.r.code,g.r.value],.slice D3 g.told.length dd3]) ?_ rfl ?_
   ·simp[results,results294,go_sem,mD,pj]
   ·rw[HG.out];exact hPz.e fy
 ·have hbe:bf=[]:=Decidable.not_not.1 (fun h=>sS (.inl h));have hne:(Mo.dX xs 1 hd).isSome=false:=by
   cases hh:(Mo.dX xs 1 hd).isSome with
   |false=>rfl
   |true=>exact absurd (.inr hh) sS
  have WW:ok=false:=WU.trans hne;have acZ:bl=0:=by have:=kt.out;rw[hbe]at this;exact this
  have lO:cl=true:=by have:=Ju.out;unfold Mo.dH at this;rw[hne,hbe]at this;simpa using this
  subst lO WW hbe;have HG:Hid (Mo.xK ⟨ge,cp,true,true,[]⟩ hd xs 2 va=⟨⟨ge,cp,true,true,[]⟩,xs,Mo.bD 9,[]⟩):=by
   have hp:¬((2:Int)=2/\(0<([]:List Int).length\/(Mo.dX xs 1 hd).isSome=true)):=by
    rintro⟨_,h|h⟩
    ·simp at h
    ·rw[hne]at h;cases h
   unfold Hid Mo.xK;rw[Ju.out,ai ah,ai (fun h=>absurd h.1 ah),ai hp]
  subst acZ;clear sS hne;go_wp2_with fail;refine(pW _ bq).mono ?_;rintro e w3 ⟨v,rfl,B3,d3,rfl,mA,hb3⟩;have jc:=aa (gp.ag hb3);have fx:=aa (g9.ag hb3);have bZ:=aa (ag bq hb3);have iP:=aa (aL.weak mA bq.size);clear mA hb3;go_wp2_with fail;refine(oa _ bZ).mono ?_;rintro e w4 ⟨v,rfl,A4,c4,rfl,xT,hb4⟩;have tu:=jc.ag hb4;have hr4:=fx.ag hb4;obtain⟨dh,cW,cY⟩:=af.aK tu;obtain⟨jG,si,hgr⟩:=af.aK hr4;have lQ:=aa tu;have jY:=aa hr4;have fJ:=aa (ag bZ hb4);have kV:=aa (aL.ag iP hb4);have PQ:=aa (xT.weak (base':=w.heap.size) bZ.size);clear tu hr4 xT hb4;go_wp2_with fail;obtain⟨TW,dZ,xY⟩:=Two.mk' (v1:=[ge,cp,true,true,.slice B3 0 d3]) (v2:=[oZ,oZ,.int .i64 9,oZ]) lQ jY ae rfl rfl;have lS:=TW.own kV ah ah;have Js:=TW.wP aP PQ ah ah ah ah;have fy:=TW.below rfl fJ ae ae;change bodyPost _ _ _ _ _ (av (av w4 (w.heap.size+1) 0 [ge,cp,true,true,.slice B3 0 d3]) (w.heap.size+1+1) 0 [oZ,oZ,.int .i64 9,oZ]);clear TW dh cW cY jG si hgr;generalize av (av w4 (w.heap.size+1) 0 [ge,cp,true,true,.slice B3 0 d3]) (w.heap.size+1+1) 0 [oZ,oZ,.int .i64 9,oZ]=wz at *;have mD:=fun i=>af.cell dZ i;have pj:=fun i=>af.cell xY i;refine bodyPost_ret (v:=.tuple #[.agg #[ge,cp,true,true,.slice B3 0 d3],.slice A4 n c4,.agg #[oZ,oZ,.int .i64 9,oZ],oN]) ?_ rfl ?_
  ·simp[results,results294,go_sem,mD,pj]
  ·rw[HG.out];exact pg.mk' (w:=w) (g:=⟨⟨ge,cp,true,true,[]⟩,xs,Mo.bD 9,[]⟩) kt rfl lS Js (Rd.nil _ _) (fun b hb=>by cases hb) (aS _) fy
end
theorem Ck(lt:α->α->Bool)(l:List α)(h:l.Nodup):(Mo.dF lt l).Nodup:=by
 have ins:∀(x:α) (l:List α),l.Nodup->x∉l->(Mo.iz lt x l).Nodup:=by
  intro x l;induction l with
  |nil=>intro _ _;exact List.nodup_cons.2 ⟨aF,List.nodup_nil⟩
  |cons y l ih =>
   intro hl hx;show(if lt x y=true then y::Mo.iz lt x l else x::y::l).Nodup;obtain⟨h1,h2⟩:=List.nodup_cons.1 hl;split
   ·refine List.nodup_cons.2 ⟨fun hm=>?_,ih h2 (fun hm=>hx (List.mem_cons_of_mem _ hm))⟩;rcases wL lt x y l hm with hm|hm
    ·exact hx (hm▸List.mem_cons_self)
    ·exact h1 hm
   ·exact List.nodup_cons.2 ⟨hx,hl⟩
 have key:∀(l acc:List α),l.Nodup->acc.Nodup->(∀x∈l,x∉acc)->(l.foldl (fun acc x=>Mo.iz lt x acc) acc).Nodup:=by
  intro l;induction l with
  |nil=>intro acc _ h _;exact h
  |cons x l ih =>
   intro acc hl ha hd;obtain⟨h1,h2⟩:=List.nodup_cons.1 hl;refine ih _ h2 (ins x acc ha (hd x List.mem_cons_self)) (fun z hz hm=>?_);rcases wL lt x z acc hm with hm|hm
   ·exact h1 (hm▸hz)
   ·exact hd z (List.mem_cons_of_mem _ hz) hm
 unfold Mo.dF;refine(List.Perm.nodup_iff (List.reverse_perm _)).2 (key l [] h List.nodup_nil (fun _ _=>by simp))
theorem Jv(xs:List Mo.Wt)(hd:Int):(Mo.qh xs hd).Nodup:=Ck _ _ (List.nodup_range.sublist List.filter_sublist)
theorem GY{xs:List Mo.Wt}(h:t∈Mo.qh xs hd):∃x,xs[t]?=some x/\x.on=true/\x.cases.any (EJ hd)=true:=by
 have h:=nc _ _ h;obtain⟨h1,h2⟩:=List.mem_filter.1 h;have h1:=List.mem_range.1 h1;have e:xs.getD t Mo.gK=xs[t]:=by rw[eR,cD h1];rfl
 rw[e,dI]at h2;exact⟨xs[t],cD h1,h2.1,h2.2⟩
theorem Ns(h:x.cases.any (EJ hd)=true):iL (EJ hd) x.cases=(Mo.nG x hd:Nat):=by
 unfold Mo.nG;have e:x.cases.findIdx? (fun c=>c.2.1==hd)=x.cases.findIdx? (EJ hd):=rfl;rw[e];rw[<-kH]at h;unfold iL at h ⊢;cases hh:x.cases.findIdx? (EJ hd)with
 |none=>rw[hh]at h;simp at h
 |some i=>rfl
theorem RO{xs:List Mo.Wt}{L:List Nat}(h:t∉L):(L.foldl Mo.gL xs)[t]?=xs[t]?:=by
 induction L generalizing xs with
 |nil=>rfl
 |cons a L ih=>rw[List.foldl_cons,ih (fun hm=>h (List.mem_cons_of_mem _ hm))];unfold Mo.gL;rw[List.getElem?_set_ne (fun he=>h (by rw[he];exact List.mem_cons_self))]
theorem GZ{xs:List Mo.Wt}{L:List Nat}:(L.foldl Mo.gL xs).length=xs.length:=by
 induction L generalizing xs with
 |nil=>rfl
 |cons a L ih=>rw[List.foldl_cons,ih];unfold Mo.gL;rw[cK]
theorem RP{xs:List Mo.Wt}{L:List Nat}{P:Mo.Wt->Prop}(h:∀x∈xs,P x)(h0:P Mo.gK):∀x∈L.foldl Mo.gL xs,P x:=by
 induction L generalizing xs with
 |nil=>exact h
 |cons a L ih =>
  rw[List.foldl_cons];refine ih (fun x hx=>?_);unfold Mo.gL at hx;rcases List.mem_or_eq_of_mem_set hx with hx|hx
  ·exact h x hx
  ·rw[hx];exact h0
def mh(xs:List Mo.Wt)(hd:Int)(j:Nat):List Mo.Told:=((Mo.qh xs hd).take j).map fun t=>Mo.nE xs t (Mo.nG (xs.getD t Mo.gK) hd) 9 0
theorem EP{xs:List Mo.Wt}(h:(Mo.qh xs hd)[j]?=some t)(hx:xs[t]?=some x):mh xs hd (j+1)=mh xs hd j++[⟨t,⟨x.seq,Mo.nG x hd,9,0⟩⟩]:=by
 unfold mh;rw[fz h,List.map_append];have e:xs.getD t Mo.gK=x:=by rw[eR,hx];rfl
 unfold Mo.nE;rw[List.map_singleton,e]
theorem Jw(xs:List Mo.Wt)(hd:Int)(j:Nat):(mh xs hd j).length<=j:=by unfold mh;rw[eK];exact List.length_take_le _ _
section
variable(w:World)
theorem Nu(x:Mo.Ch)(B:Option Addr)(bl d:Nat)(hbl:bl=x.buf.length)(PN:bl<=90000)(ac0:bC w .i64 B x.buf)(A:Option Addr)(c:Nat)(xs:List Mo.Wt)(hn:n=xs.length)(hl:n<=19)(hr:fX w A xs)(hc:∀x∈xs,x.cases.length<=90000)(hd:Int)(hu:x.used=true) :
 Calls prog 284 #[.agg #[x.gen,x.cap,x.used,x.closed,.slice B bl d],hd,.slice A n c] w fun e w'=>e=.returned (Mo.vk x hd xs)/\Below w w w':=by
 have Ur:=aa (fun wx (hb:Below w w wx)=>Nc wx A c xs hn hl (hr.jl aP hb) (fun x hx=>bm (hc x hx) ae) hd)
 have HI:Hid (Mo.vk x hd xs=(x.closed && decide (bl=0) && decide ((Mo.qh xs hd).length=0))):=by unfold Hid Mo.vk;rw[hu, <-hbl,Bool.true_and]
 generalize Mo.vk x hd xs=r at *
 clear ac0 hn hr hc hbl
 obtain⟨ge,cp,us,cl,bf⟩:=x
 have WT:us=true:=hu
 subst WT
 clear hu
 dsimp only at *
 have bG:Hid (Below w w (w.alloc (.cells #[ge,cp,true,cl,.slice B bl d] 83))):=ak (aj w) _
 cases cl with
 |false =>
  have hr:r=false:=by rw[HI.out];rfl
  exact Uv
 |true =>
  by_cases h0:bl=0
  ·subst h0;go_enter func284,ntmps284;go_wp2_with fail;refine(Ur _ bG).mono ?_;rintro e w1 ⟨A1,c1,rfl,eo,hb1⟩;have bj:=aa (ag bG hb1);clear eo hb1;have hr:r=decide ((Mo.qh xs hd).length=0):=by rw[HI.out];simp
   have HR:=aa hr;clear hr;go_wp2_with fail;go_ret;exact⟨bS (by rw[HR.out,Bool.eq_iff_iff];simp),bj⟩
  ·have hr:r=false:=by rw[HI.out];simp[h0]
   have d0:((bl:Int)==0)=false:=by simpa using h0
   exact Uv
end
def aa0(g:Mo.vh)(n:Nat)(w:World)(e:Ending)(w':World):Prop:=∃B d A c D dd,e=.returned (.tuple #[.agg #[g.c.gen,g.c.cap,g.c.used,g.c.closed,.slice B g.c.buf.length d],.slice A n c,g.r.code,.slice D g.told.length dd])/\kz g n w.heap.size w' B d A c D dd/\Below w w w'
theorem Two.one{t:TypeId}{v1:List Value}(h1:af w q t c1.toArray)(l1:c1.length=v1.length):Two w (av w q 0 v1) q q t t/\af (av w q 0 v1) q t v1.toArray:=⟨⟨⟨_,h1⟩,⟨_,h1⟩,fun _ hq _=>aM hq v1 0,bw _ _ _⟩,aR h1 l1⟩
theorem kz.of{g:Mo.vh}{c:Nat}(hbl:bl=g.c.buf.length)(hO:aL w base 3 .i64 (.slice B bl d) g.c.buf)(hW:ko w base (.slice A n c) g.l)(ht:g.told=[]):kz g n base w B d A c none 0:=by subst hbl;exact⟨hO.pU.2,fun b hb _=>by subst hb;exact uQ hO,hO.cap.2,hW,by rw[ht];exact Rd.nil _ _,fun b hb=>(by cases hb),by rw[ht];exact aS _⟩
theorem Jx{b':Nat}{vt:Value}{xs:List Mo.Wt}{l:List α}(h:ko w base v xs)(ho:aI w b' 229 k f vt l)(hg:w.grownBy w' vt.ownBlock):ko w' base v xs:=by
 have mi:∀b,gJ w b->w'.heap[b]?=w.heap[b]?:=by
  intro b hb;refine hg.block b hb.lt (fun he=>?_);rcases hb with⟨ys,fr,hb⟩|⟨ys,fr,hb⟩
  ·exact ed ho hb ah he
  ·exact ed ho hb ah he
 refine(aH.move aP h mi (fun g hgv=>?_)).mono aP (fun b hb=>?_)
 ·obtain⟨rows,h1,h2,h3⟩:=h;exact hg.block g (aX h2 hgv).2 (cR h2 ho ah hgv)
 ·rcases hb with⟨ys,fr,hb⟩|⟨ys,fr,hb⟩
  ·exact .inl ⟨ys,fr,(mi b (.inl ⟨ys,fr,hb⟩)).trans hb⟩
  ·exact .inr ⟨ys,fr,(mi b (.inr ⟨ys,fr,hb⟩)).trans hb⟩
theorem ER:(prog.info? 229).map (fun i=>(i.zero,i.size,i.bytes))=some (some (.agg #[oZ,oZ,oZ,oZ,oZ]),5,40):=by kernel_rfl
section
variable(w:World)
theorem Nv(x:Mo.Ch)(B:Option Addr)(bl d:Nat)(hbl:bl=x.buf.length)(PN:bl<=90000)(hb0:bC w .i64 B x.buf)(A:Option Addr)(c:Nat)(xs:List Mo.Wt)(hn:n=xs.length)(hl:n<=19)(hr:fX w A xs)(hc:∀x∈xs,x.cases.length<=90000)(hd:Int)(hu:x.used=true) :
 Calls prog 289 #[.agg #[x.gen,x.cap,x.used,x.closed,.slice B bl d],hd,.slice A n c] w (aa0 (Mo.q7 x hd xs) n w):=by
 have pW:=aa (fun wx (hb:Below w w wx)=>kW wx x B bl d hbl ae (hb0.below hb))
 have oa:=aa (fun wx (hb:Below w w wx)=>ib wx A c xs hn ae (hr.jl aP hb) (fun x hx=>bm (hc x hx) ae))
 have Ur:=aa (fun wx (hb:Below w w wx)=>Nc wx A c xs hn hl (hr.jl aP hb) (fun x hx=>bm (hc x hx) ae) hd)
 have HEN:=aa (fun wx (hb:Below w w wx) (t:Nat) (x:Mo.Wt) hx (wh co va:Int)=>tB wx A c xs hn (hr.jl aP hb) (t:=t) (x:=x) hx wh co va)
 have EB:=aa (fun wx (hb:Below w w wx) (t:Nat) (x:Mo.Wt) hx=>fX.row (hr.jl aP hb) (j:=t) (x:=x) hx)
 have HC:=aa hc
 have kt:=aa hbl
 have HN:=aa hn
 unfold WE at pW
 rw[<-hbl]at pW
 clear hbl hb0 hn hr hc
 obtain⟨ge,cp,us,cl,bf⟩:=x
 have WT:us=true:=hu
 subst WT
 clear hu
 dsimp only at *
 have bG:Hid (Below w w (((w.alloc (.cells #[ge,cp,true,cl,.slice B bl d] 83)).alloc (.cells #[hd] 3)).alloc pS)):=ak (ak (ak (aj w) _) _) _
 have gV:Hid (af (((w.alloc (.cells #[ge,cp,true,cl,.slice B bl d] 83)).alloc (.cells #[hd] 3)).alloc pS) w.heap.size 83 #[ge,cp,true,cl,.slice B bl d]):=((af.new _ _ _).alloc _).alloc _
 have qF:Hid (af (((w.alloc (.cells #[ge,cp,true,cl,.slice B bl d] 83)).alloc (.cells #[hd] 3)).alloc pS) (w.heap.size+1) 3 #[hd]):=(af.newAt _ _ _ aF).alloc _
 have kK:Hid (af (((w.alloc (.cells #[ge,cp,true,cl,.slice B bl d] 83)).alloc (.cells #[hd] 3)).alloc pS) (w.heap.size+1+1) 83 #[oZ,oZ,false,false,oN]):=(af.newAt _ _ _ aF)
 go_enter func289,ntmps289
 go_wp2_with fail
 refine(pW _ bG).mono ?_
 rintro e w1 ⟨v,rfl,B1,d1,rfl,eo,hb1⟩
 have bj:=aa (ag bG hb1);have fh:=aa (gV.ag hb1);have uF:=aa (qF.ag hb1);have iE:=aa (kK.ag hb1);have jO:=aa (aL.weak eo bG.size)
 clear eo hb1
 go_wp2_with fail
 refine(oa _ bj).mono ?_
 rintro e w2 ⟨v,rfl,A2,c2,rfl,fN,hb2⟩
 have bq:=aa (ag bj hb2);have jv:=aa (fh.ag hb2);have fP:=aa (uF.ag hb2);have gp:=aa (iE.ag hb2);have eu:=aa (aL.ag jO hb2);have qT:=aa (fN.weak (base':=w.heap.size) bj.size)
 clear fN hb2 bG bj gV fh qF uF kK iE jO
 have fU:=fun i=>af.cell jv i
 have km:=af.lt jv
 have hch:=fun i=>af.cell fP i
 have WX:=af.lt fP
 obtain⟨dh,cW,-⟩:=af.aK gp
 have cY:=af.lt gp
 cases cl with
 |true =>
  have HG:Hid (Mo.q7 ⟨ge,cp,true,true,bf⟩ hd xs=⟨⟨ge,cp,true,true,bf⟩,xs,Mo.bD 9,[]⟩):=rfl;go_wp2_with fail;obtain⟨TW,dZ⟩:=Two.one (v1:=[ge,cp,true,true,.slice B1 bl d1]) gp rfl;have yK:=TW.own eu ah ah;have hW3:=TW.wP aP qT ah ah ah ah;have oU:Below w w (av w2 (w.heap.size+1+1) 0 [ge,cp,true,true,.slice B1 bl d1]):=aw ae _ _ _ bq;clear TW fU km hch WX dh cW cY;have hA:=ak (aj (av w2 (w.heap.size+1+1) 0 [ge,cp,true,true,.slice B1 bl d1])) (.cells #[ge,cp,true,true,.slice B1 bl d1] 83);have hP:=kz.of (g:=⟨⟨ge,cp,true,true,bf⟩,xs,Mo.bD 9,[]⟩) kt (aL.ag yK hA) (hW3.jl aP hA) rfl;have fy:=ag oU hA;have dZ:=dZ.ag hA;clear yK hW3 oU hA;change bodyPost _ _ _ _ _ ((av w2 (w.heap.size+1+1) 0 [ge,cp,true,true,.slice B1 bl d1]).alloc (.cells #[ge,cp,true,true,.slice B1 bl d1] 83));generalize(av w2 (w.heap.size+1+1) 0 [ge,cp,true,true,.slice B1 bl d1]).alloc (.cells #[ge,cp,true,true,.slice B1 bl d1] 83)=wz at *;have mD:=fun i=>af.cell dZ i;refine bodyPost_ret (v:=.tuple #[.agg #[ge,cp,true,true,.slice B1 bl d1],.slice A2 n c2,.int .i64 9,oN]) ?_ rfl ?_
  ·simp[results,results289,go_sem,mD]
  ·rw[HG.out];exact⟨B1,d1,A2,c2,none,0,by rw[kt.out];rfl,hP,fy⟩
 |false =>
  have HG:Hid (Mo.q7 ⟨ge,cp,true,false,bf⟩ hd xs=⟨⟨ge,cp,true,true,bf⟩,(Mo.qh xs hd).foldl Mo.gL xs,Mo.bD 0,mh xs hd (Mo.qh xs hd).length⟩):=by unfold mh;rw[List.take_of_length_le (aS _)];rfl
  go_wp2_with fail;have bZ:=aa (ak bq (.cells #[ge,cp,true,true,.slice B1 bl d1] 83));have jc:=aa (gp.alloc (.cells #[ge,cp,true,true,.slice B1 bl d1] 83));have PU:=aa (fP.alloc (.cells #[ge,cp,true,true,.slice B1 bl d1] 83));have iP:=aa (aL.alloc eu (.cells #[ge,cp,true,true,.slice B1 bl d1] 83));have KP:=aa (qT.jl aP (ak (aj w2) (.cells #[ge,cp,true,true,.slice B1 bl d1] 83)));have pY:=aa (af.new w2 83 #[ge,cp,true,true,.slice B1 bl d1]);have zH:w.heap.size+1+1<w2.heap.size:=gp.lt;clear fU km hch WX dh cW cY bq gp fP eu qT jv;refine(Ur _ bZ).mono ?_;rintro e w3 ⟨A3,c3,rfl,mA,hb3⟩;have fJ:=aa (ag bZ hb3);have lQ:=aa (jc.ag hb3);have HH4:=aa (PU.ag hb3);have kV:=aa (aL.ag iP hb3);have PQ:=aa (KP.jl aP hb3);have PV:=aa (pY.ag hb3);have PD:=aa (aL.pU mA);clear mA hb3 bZ jc PU iP KP pY;obtain⟨m,hm⟩:=aD ((Mo.qh xs hd).length);have Lq:m<=n:=by have h1:=Ab xs hd xs.length;have h2:=congrArg List.length (M9 xs hd);rw[jf,jb,jf]at h2;have:=HN.out;omega
  rw[<-hm]at HG PD ⊢;have HM:=aa hm;clear hm;go_wp2_with fail;go_loopw[11,12,34] (fun v td i wr=>∃(j:Nat) (A':Option Addr) (c':Nat) (D:Option Addr) (dd:Nat),j<=m/\i=j/\v=.slice A' n c'/\td=.slice D (mh xs hd j).length dd/\Hid (ko wr w.heap.size (.slice A' n c') (((Mo.qh xs hd).take j).foldl Mo.gL xs))/\Hid (aI wr w3.heap.size 229 5 mg (.slice D (mh xs hd j).length dd) (mh xs hd j))/\Hid (Below w3 w3 wr)) (fun _ _ i _=>m-(intOf i).toNat);case atStart=>exact⟨0,A2,c2,none,0,aY _,rfl,rfl,rfl,PQ,aI.nil _ _ _ _ _,aj _⟩
  case round =>
   obtain⟨j,A',c',D,dd,hj,rfl,rfl,rfl,HW,HT,HX⟩:=hrel;by_cases hlt:j<m
   ·obtain⟨t,ht⟩:∃t,(Mo.qh xs hd)[j]?=some t:=⟨_,cD (by rw[<-HM.out];exact hlt)⟩
    obtain⟨y,hy,jN,hany⟩:=GY (bP ht);obtain⟨ad,z,hA,hz,hcell⟩:=bC.at_ (PD.2.below HX) (i:=j) (by rw[jf, <-HM.out];exact hlt);have hzt:z=(t:Int):=by unfold eY at hz;rw[List.getElem?_map,ht]at hz;simpa using hz.symm
    subst hzt;have Nw:t∉(Mo.qh xs hd).take j:=by
     intro ac1;obtain⟨i',hi',he⟩:=List.getElem_of_mem ac1;rw[eW]at hi';have h1:(Mo.qh xs hd)[i']?=some t:=by rw[<-he,List.getElem_take];exact cD ae
     have h2:=(List.getElem?_inj (by have:=cE h1;omega) (Jv xs hd)).1 (h1.trans ht.symm);omega
    have pJ:=ag fJ HX;obtain⟨ad',D',dd',hA',_,hRd,c0,c1,c2',c3'⟩:=EB.out wr pJ t y hy;have RG:t<n:=by rw[HN.out];exact cE hy
    have tA:y.cases.length<=90000:=HC.out y (bP hy);have HIX:=aa (wK wr 297 #[.pointer (some ⟨w.heap.size+1,0,none⟩)] (w.heap.size+1) 0 (.inr (.inr ⟨rfl,rfl⟩)) (EJ hd) (fun k wx hb=>Ww wx (w.heap.size+1) hd (((HH4.ag HX).ag hb).cell 0) ((HH4.ag HX).ag hb).lt k) D' dd' y.cases _ rfl hRd ae);rw[Ns hany]at HIX;have HE:=aa (fun wx hb=>HEN wx hb t y hy (Mo.nG y hd:Nat) 9 0);have uE:=(RO (xs:=xs) Nw).trans hy;have PO:=aa (fun wx (hX:fX wx A' (((Mo.qh xs hd).take j).foldl Mo.gL xs))=>rT wx A' c' _ (n:=n) (by rw[GZ];exact HN.out) ae hX (RP (fun x hx=>bm (HC x hx) ae) (by simp[Mo.gK])) uE jN);have HTS:=aa (EP ht hy);have p6:Hid (((Mo.qh xs hd).take (j+1)).foldl Mo.gL xs=Mo.gL (((Mo.qh xs hd).take j).foldl Mo.gL xs) t):=by unfold Hid;rw[fz ht,List.foldl_append];rfl
    have KQ:=Jw xs hd j;subst hA hA';clear ht hy jN hany hz Nw hRd c0 c1 c2' uE tA;obtain⟨wh,hwh⟩:∃wh:Nat,wh=Mo.nG y hd:=⟨_,rfl⟩
    rw[<-hwh]at HIX HE HTS;clear hwh;have i1:(t:Int)<n:=ae;obtain⟨tl,ES⟩:=aD ((mh xs hd j).length);rw[<-ES]at HT KQ ⊢;have AP:=aa ES;clear ES;go_wp2_with fail;refine HIX.mono ?_;rintro e w5 ⟨rfl,di⟩;have sZ:=aa (ag HX di);have iW:=aa (ag (ag fJ HX) di);have Y4:=aa (HW.jl aP di);have Ba:=aa (HT.ag di);clear di HIX c3';go_wp2_with fail;refine(HE _ iW).mono ?_;rintro e w6 ⟨rfl,fO⟩;have PY:=aa (ak (ag sZ fO) (.cells #[t,y.seq,wh,.int .i64 9,oZ] 229));have HW6:=aa ((Y4.jl aP fO).jl aP (ak (aj w6) (.cells #[t,y.seq,wh,.int .i64 9,oZ] 229)));have Nx:=aa ((Ba.ag fO).alloc (.cells #[t,y.seq,wh,.int .i64 9,oZ] 229));clear fO HE sZ Y4 Ba iW;have hs6:=PY.size;go_wp2_with(at_builtin;refine cj _ rfl _ _ 186 rfl w3.heap.size 229 5 40 (.agg #[oZ,oZ,oZ,oZ,oZ]) mg yX Jr underlying186 ER rfl ah _ (mh xs hd j) rfl Nx w6.heap.size 1 1 [⟨t,⟨y.seq,wh,9,0⟩⟩] rfl rfl ?c4 ?c5 ?c6 ?c7 ?_)
    case c4=>exact Rd.lit w6 (mg ⟨t,⟨y.seq,wh,9,0⟩⟩) _
    case c5=>rw[<-AP.out];simp;omega
    case c6=>rw[<-AP.out];simp;omega
    case c7=>simp at hs6 ⊢;omega
    intro v7 w7 G0 ET hzz;clear hzz;rw[<-HTS.out]at G0;obtain⟨A7,c7,hv7⟩:=G0.shape;subst hv7;have HW7:=aa (Jx HW6 Nx ET);have Cm:=aa (aI.br Nx PY ET hs6 (aS _));have PZ:=aa G0;clear G0 ET HW6 Nx PY hs6;have hX:fX w7 A' (((Mo.qh xs hd).take j).foldl Mo.gL xs):=by
     obtain⟨A9,c9,h9,_,h10⟩:=HW7.YF;injection h9 with h9 h11 h12
     subst h9;exact h10
    have HC7:=aa (PO w7 hX);clear hX;go_wp2_with fail;refine HC7.mono ?_;rintro e w8 ⟨v,rfl,A8,c8,rfl,Ue,AW⟩;have EU:=aa (ag Cm AW);have HT8:=aa (PZ.ag AW);have HW8:=aa Ue;have WY:Hid (w.heap.size<=w7.heap.size):=bm fJ.size Cm.size;clear Ue AW HC7 PO HW7 Cm PZ;go_wp2_with fail;go_roundw;case rel=>exact⟨j+1,A8,c8,A7,c7,ae,by go_num,rfl,rfl,by rw[p6.out];exact HW8.weak WY,HT8,EU⟩
    case measure=>simp[intOf];omega
   ·have hjm:j=m:=ae;subst hjm;have hl1:(Mo.qh xs hd).take j=Mo.qh xs hd:=List.take_of_length_le (by have:=HM.out;omega);rw[hl1]at HW;have hB:=ag fJ HX;have hq:=lQ.ag HX;have hk:=PV.ag HX;have hO:=aL.ag kV HX;have HS:=aa fJ.size;clear hl1;obtain⟨tl,ES⟩:=aD ((mh xs hd j).length);rw[<-ES]at HT ⊢;have AP:=aa ES;clear ES;obtain⟨dh,cW,cY⟩:=af.aK hq;obtain⟨fU,-,km⟩:=af.aK hk;have HQ:=aa hq;have HB:=aa hB;have HO:=aa hO;clear hq hk hB hO;go_wp2_with fail;obtain⟨TW,dZ⟩:=Two.one (v1:=[ge,cp,true,true,.slice B1 bl d1]) HQ rfl;have lS:=TW.own HO ah ah;have Js:=TW.wP aP HW ah ah ah ah;have WO:aI _ w3.heap.size 229 5 mg (.slice D tl dd) (mh xs hd j):=TW.own HT ah ah;have fy:Below w w (av wr (w.heap.size+1+1) 0 [ge,cp,true,true,.slice B1 bl d1]):=aw ae _ _ _ HB;clear TW fU km dh cW cY;change bodyPost _ _ _ _ _ (av wr (w.heap.size+1+1) 0 [ge,cp,true,true,.slice B1 bl d1]);generalize av wr (w.heap.size+1+1) 0 [ge,cp,true,true,.slice B1 bl d1]=wz at *;have mD:=fun i=>af.cell dZ i;refine bodyPost_ret (v:=.tuple #[.agg #[ge,cp,true,true,.slice B1 bl d1],.slice A' n c',oZ,.slice D tl dd]) ?_ rfl ?_
    ·simp[results,results289,go_sem,mD]
    ·rw[HG.out];have KQ:=AP.out;subst KQ;refine⟨B1,d1,A',c',D,dd,by rw[kt.out];rfl,⟨?_,?_,?_,Js,(aI.xO WO).2,?_,?_⟩,fy⟩
     ·have:=kt.out;subst this;exact(aL.pU lS).2
     ·intro b hb _;subst hb;exact uQ lS
     ·have:=(aL.cap lS).2;have:=kt.out;subst this;assumption
     ·intro b hb _;subst hb;exact tz WO
     ·have:=(aI.cap WO).2;exact this
end
theorem oD.row{xs:List Mo.Ch}(h:oD w A xs){x:Mo.Ch}(hx:xs[j]?=some x):∃ad B d,A=some ad/\x.buf.length<=d/\bC w .i64 B x.buf /\
 w.cell? (ad.add (j*5))=some (.int .i64 x.gen)/\w.cell? ⟨(ad.add (j*5)).block,(ad.add (j*5)).off+1,none⟩=some (.int .i64 x.cap)/\w.cell? ⟨(ad.add (j*5)).block,(ad.add (j*5)).off+2,none⟩=some (.bool x.used)/\w.cell? ⟨(ad.add (j*5)).block,(ad.add (j*5)).off+3,none⟩=some (.bool x.closed)/\w.cell? ⟨(ad.add (j*5)).block,(ad.add (j*5)).off+4,none⟩=some (.slice B x.buf.length d):=by
 obtain⟨ad,x',r,hA,yB,hP,ju,hcell⟩:=jF.at_ ah h (cE hx)
 rw[hx]at yB
 injection yB with yB
 subst yB
 obtain⟨B,d,rfl,hd,hR⟩:=hP
 have c0:=hcell 0 _ rfl
 have c1:=hcell 1 _ rfl
 have c2:=hcell 2 _ rfl
 have c3:=hcell 3 _ rfl
 have c4:=hcell 4 _ rfl
 rw[add_lit _ _ ah]at c1 c2 c3 c4
 exact⟨ad,B,d,hA,hd,hR.1,c0,c1,c2,c3,c4⟩
def mI(c:Mo.bH)(A:Option Addr)(n k:Nat)(t sq:Int)(tk:Int)(v1 v2 v3:Value):Array Value :=#[tk,v1,v2,v3,c.kind,c.threads,c.chans,c.cap,c.nodes,c.aJ,c.aB,c.tags,c.bn,c.ba,.slice A n k,t,sq]
structure dx (w:World) (base g:Nat) (c:Mo.bH) (A:Option Addr) (n k:Nat) (t sq:Int) (h:Mo.Hl) (A1 A2 A3:Option Addr) (m1 m2 m3:Nat):Prop where
 blk:af w g 287 (mI c A n k t sq h.ay (.slice A1 h.chans.length m1) (.slice A2 h.waits.length m2) (.slice A3 h.done.length m3))
 chans:MX w base (.slice A1 h.chans.length m1) h.chans
 waits:ko w base (.slice A2 h.waits.length m2) h.waits
 done:aI w base 48 4 dA (.slice A3 h.done.length m3) h.done
 low:base<=g
structure RQ (h:Mo.Hl):Prop where
 chans:h.chans.length<=8
 waits:h.waits.length<=19
 done:h.done.length<=19
 buf:∀x∈h.chans,x.buf.length<=90000
 cases:∀x∈h.waits,x.cases.length<=90000
 gen:∀x∈h.chans,0<=x.gen/\x.gen<=100000
section
variable{w w':World} {base g:Nat} {c:Mo.bH} {A:Option Addr} {n k:Nat} {t sq:Int} {h:Mo.Hl} {A1 A2 A3:Option Addr} {m1 m2 m3:Nat}
theorem dx.more(H:dx w base g c A n k t sq h A1 A2 A3 m1 m2 m3)(hb:Below w w w'):dx w' base g c A n k t sq h A1 A2 A3 m1 m2 m3:=⟨H.blk.ag hb,H.chans.jl b9 hb,H.waits.jl aP hb,H.done.ag hb,H.low⟩
theorem aH.KR{P:qN α}{e:TypeId}{A:Option Addr}{n c:Nat}(h:aH e m P w base S (.slice A n c) xs):jF m P w S A xs:=by
 obtain⟨A9,c9,h9,_,h10⟩:=h.YF;injection h9 with h9 h11 h12
 subst h9;exact h10
theorem dx.Dx(H:dx w base g c A n k t sq h A1 A2 A3 m1 m2 m3):oD w A1 h.chans:=H.chans.KR
theorem dx.Uw(H:dx w base g c A n k t sq h A1 A2 A3 m1 m2 m3):fX w A2 h.waits:=H.waits.KR
end
section
variable(w:World)
theorem nj(tk:Int)(A1:Option Addr)(m1:Nat)(xs:List Mo.Ch){n1:Nat}(hn:n1=xs.length)(hr:oD w A1 xs)(V2 V3:Value)(ws:List Mo.Wt)(ds:List Mo.Rs)(hd:Int) :
 Calls prog 283 #[.agg #[tk,.slice A1 n1 m1,V2,V3],hd] w fun e w'=>e=.returned (.tuple #[((Mo.cC ⟨tk,xs,ws,ds⟩ hd).getD 0:Nat),.bool (Mo.cC ⟨tk,xs,ws,ds⟩ hd).isSome])/\Below w w w':=by
 have Ae:=aa (fun wx=>vp wx hd)
 have hpd:(Mo.ew hd).2.2=true->0<=(Mo.ew hd).1/\(Mo.ew hd).1<8:=by
  unfold Mo.ew;split
  ·intro h;cases h
  ·intro _;dsimp only;omega
 have HF:Hid (Mo.cC ⟨tk,xs,ws,ds⟩ hd=if(Mo.ew hd).2.2=false then none else match xs[(Mo.ew hd).1.toNat]? with|none=>none|some x=>if x.used=true/\x.gen=(Mo.ew hd).2.1 then some (Mo.ew hd).1.toNat else none):=rfl
 generalize Mo.cC ⟨tk,xs,ws,ds⟩ hd=r at *
 generalize Mo.ew hd=q at *
 obtain⟨pl,ge,ok⟩:=q
 dsimp only at *
 have EB:=aa (fun(j:Nat) (x:Mo.Ch) hx=>oD.row (hr.jl b9 (ak (aj w) (.cells #[tk,.slice A1 n1 m1,V2,V3] 71))) (j:=j) (x:=x) hx)
 have HN:=aa hn
 clear hn hr
 have bG:Hid (Below w w (w.alloc (.cells #[tk,.slice A1 n1 m1,V2,V3] 71))):=ak (aj w) _
 cases ok with
 |false=>have hr:r=none:=HF.out;subst hr;clear hpd;exact WZ
 |true =>
  obtain⟨hp0,hp1⟩:=hpd rfl;clear hpd;obtain⟨p,rfl⟩:∃p:Nat,pl=(p:Int):=⟨pl.toNat,ae⟩
  rw[fF]at HF;by_cases hpn:p<n1
  ·obtain⟨x,hx⟩:∃x,xs[p]?=some x:=⟨_,cD (by rw[<-HN.out];exact hpn)⟩
   obtain⟨ad,B,d,hA,_,_,c0,c1,c2,c3,c4⟩:=EB.out p x hx;have HX:=aa hx;have KJ:Hid (r=if x.used=true/\x.gen=ge then some p else none):=by unfold Hid;rw[HF.out,ai ah,hx]
   subst hA;clear hx c1 c3 c4;have i1:(p:Int)<n1:=ae;cases hu:x.used with
   |false =>
    rw[hu]at c2;have hr:r=none:=by rw[KJ.out,hu];rfl
    subst hr;clear hu;exact WZ
   |true =>
    rw[hu]at c2;by_cases hg:x.gen=ge
    ·have hr:r=some p:=by rw[KJ.out,hu,au ⟨rfl,hg⟩]
     subst hr;have d1:(x.gen !=ge)=false:=by simpa using hg
     exact aa1
    ·have hr:r=none:=by rw[KJ.out,ai (fun h=>hg h.2)]
     subst hr;have d1:(x.gen !=ge)=true:=by simpa using hg
     exact aa1
  ·have hr:r=none:=by rw[HF.out,ai ah,List.getElem?_eq_none (by have:=HN.out;omega)]
   subst hr;have i1:(n1:Int)<=p:=ae;exact WZ
end
structure rU (w wr:World) (base g3 n3 m3:Nat) (L:List Mo.Rs):Prop where
 own:aI wr base 48 4 dA (.slice g3 n3 m3) L
 rest:∀b,b<w.heap.size->b≠g3->wr.heap[b]?=w.heap[b]?
 ext:Below base w wr
 size:w.heap.size<=wr.heap.size
 low:base<=g3
theorem rU.more{L:List Mo.Rs}(h:rU w wr base g3 n3 m3 L)(hb:Below wr wr w')(hg:base<=w.heap.size):rU w w' base g3 n3 m3 L:=⟨h.own.ag hb,fun b h1 h2=>(hb.block b (bF h1 h.size)).trans (h.rest b h1 h2),h.ext.trans (hb.mono (bm hg h.size)),bm h.size hb.size,h.low⟩
theorem aI.setRow{c:Nat}{e:TypeId}(hf:∀x,(f x).length=m)(h:aI w base e m f (.slice g n c) xs)(hi:i<xs.length)(y:α)(h1:∀x,∀u∈f x,u.oneCell'=true) :
 aI (av w g (i*m) (f y)) base e m f (.slice g n c) (xs.set i y):=by
 have hn:=h.cap.1
 subst hn
 have h2:aI w base e m dR (.slice g xs.length c) (xs.map (iM f hf h1)):=aI.rows.2 h
 unfold aI at h2
 rw[eK]at h2
 have h3:=rR (f y) w (i*m) _ h2
 have e1:=tx (xs.map (iM f hf h1)) i (iM f hf h1 y) (by simpa using hi)
 have e2:(iM f hf h1 y).val=f y:=rfl
 rw[e2]at e1
 rw[e1, <-List.map_set]at h3
 refine(aI.rows (h1:=hf) (h2:=h1)).1 ?_
 unfold aI
 rw[eK,cK]
 exact h3
theorem rU.put{L:List Mo.Rs}(h:rU w wr base g3 n3 m3 L)(hi:i<L.length)(y:Mo.Rs):rU w (av wr g3 (i*4) (dA y)) base g3 n3 m3 (L.set i y):=⟨h.own.setRow cm hi y oV,fun b h1 h2=>(aM h2 _ _).trans (h.rest b h1 h2),aw h.low _ _ _ h.ext,by rw[bw];exact h.size,h.low⟩
def aa2(w:World)(base g3 n3 m3:Nat)(L:List Mo.Rs)(e:Ending)(w':World):Prop:=e=.returned (.tuple #[])/\rU w w' base g3 n3 m3 L
theorem EW{d:List Mo.Rs}{ts:List Mo.Told}{y:Mo.Told}(h:ts[j]?=some y):Mo.gj d (ts.take (j+1))=(Mo.gj d (ts.take j)).set y.th y.res:=by unfold Mo.gj;rw[fz h,List.foldl_append];rfl
theorem kX(d:List Mo.Rs)(ts:List Mo.Told):(Mo.gj d ts).length=d.length:=by
 unfold Mo.gj;induction ts generalizing d with
 |nil=>rfl
 |cons y ts ih=>rw[List.foldl_cons,ih,cK]
section
variable(w:World)
theorem Ny(hs:w.cell? ⟨g,3,none⟩=some (.slice g3 n3 m3))(Dl:g<w.heap.size)(fV:g≠g3)(hbl:base<=w.heap.size)(d:List Mo.Rs)(hT:rU w w base g3 n3 m3 d)(D:Option Addr)(dd:Nat)(ts:List Mo.Told)(hn:n=ts.length)(hl:n<=100)(hr:cN w mg D ts)(Et:∀b,D=some b->ts≠[]->b.block≠g3)(ji:∀x∈ts,x.th<d.length) :
 Calls prog 290 #[.pointer g,.slice D n dd] w (aa2 w base g3 n3 m3 (Mo.gj d ts)):=by
 have KH:=aa hT
 have HN:=aa hn;have Ux:=aa ji
 have HR:=aa (fun(wr:World) (L:List Mo.Rs) (h:rU w wr base g3 n3 m3 L)=>Rd.move (U:=fun b=>b=g3) hr h.rest (fun ad ha hne=>Et ad ha (fun he=>hne (by rw[he];rfl))))
 have HS:=aa (fun(wr:World) (L:List Mo.Rs) (h:rU w wr base g3 n3 m3 L)=>(show wr.cell? ⟨g,3,none⟩=some (.slice g3 n3 m3)by
  have:=h.rest g Dl fV;unfold World.cell? at hs ⊢;dsimp only at hs ⊢;rw[this];exact hs))
 have ua:n3=d.length:=hT.own.cap.1
 have PK:=aa ua
 clear hs hn ji hr Et hT ua fV
 go_enter func290,ntmps290
 go_wp2_with fail
 go_loopw[8] (fun i wr=>∃j:Nat,j<=n/\i=j/\Hid (rU w wr base g3 n3 m3 (Mo.gj d (ts.take j)))) (fun i _=>n-(intOf i).toNat)
 case atStart=>exact⟨0,aY _,rfl,KH⟩
 case round =>
  obtain⟨j,hj,rfl,HW⟩:=hrel;by_cases hlt:j<n
  ·obtain⟨ad,y,hA,hy,hcell⟩:=cN.at_ yX ah (HR wr _ HW) (i:=j) (by rw[<-HN.out];exact hlt);have c0:=hcell 0 _ rfl;have c1:=hcell 1 _ rfl;have c2:=hcell 2 _ rfl;have c3:=hcell 3 _ rfl;have c4:=hcell 4 _ rfl;rw[add_zero]at c0;rw[add_lit _ _ ah]at c1 c2 c3 c4;subst hA;have aa3:y.th<n3:=by rw[PK.out];exact Ux.out y (bP hy)
   have HY:=aa (EW (d:=d) hy);have ng:=aa (HW.more (ak (aj wr) (.cells #[y.th,y.res.seq,y.res.cs,y.res.code,y.res.value] 229)) hbl);have hs3:(wr.alloc (.cells #[y.th,y.res.seq,y.res.cs,y.res.code,y.res.value] 229)).cell? ⟨g,3,none⟩=_:=HS.out _ _ ng;have hg3:g3<wr.heap.size:=by have:=tz HW.own;exact this.lt
   have Jh:=bF Dl HW.size;have aec:=HS.out _ _ HW;obtain⟨x3,hx3⟩:∃x3,(Mo.gj d (ts.take j))[y.th]?=some x3:=⟨_,cD (by rw[kX, <-PK.out];exact aa3)⟩
   have q0:=aI.cells cm HW.own hx3 (j:=0) rfl;have q1:=aI.cells cm HW.own hx3 (j:=1) rfl;have q2:=aI.cells cm HW.own hx3 (j:=2) rfl;have q3:=aI.cells cm HW.own hx3 (j:=3) rfl;rw[Nat.add_zero]at q0;have f0:=aI.frozen HW.own (y.th*4);have f1:=aI.frozen HW.own (y.th*4+1);have f2:=aI.frozen HW.own (y.th*4+2);have f3:=aI.frozen HW.own (y.th*4+3);have t0:(0:Int)<=(y.th:Int):=ae;have t1:(y.th:Int)<(n3:Int):=ae;have HTY:Hid (y.th<(Mo.gj d (ts.take j)).length):=by unfold Hid;rw[kX, <-PK.out];exact aa3
   clear hy hcell hx3 hs3;go_wp2_with fail;go_quiet(fail);go_wp2_with fail;go_region;all_goals
    go_wp2_with fail;go_roundw;case rel=>exact⟨j+1,ae,by go_num,by rw[HY.out];exact(ng.more (bO (aj _) _) hbl).put HTY y.res⟩
    case measure=>simp[intOf];omega
  ·have Dv:j=n:=ae;subst Dv;have mS:=HW.out;rw[List.take_of_length_le (by have:=HN.out;omega)]at mS;have Wh:=aa mS;clear mS;go_wp2_with fail;go_end0;exact⟨rfl,Wh⟩
end
def yY(g top:Nat)(h:Mo.Hl)(A1 A2 A3:Option Addr)(m1 m2 m3:Nat):Prop:=g<top/\(∀b,(Value.slice A1 h.chans.length m1).ownBlock=some b->b<top)/\(∀b,(Value.slice A2 h.waits.length m2).ownBlock=some b->b<top)/\∀b,(Value.slice A3 h.done.length m3).ownBlock=some b->b<top
theorem aH.lt{P:qN α}{e:TypeId}(h:aH e m P w base S v xs)(hb:v.ownBlock=some b):base<=b/\b<w.heap.size:=by obtain⟨rows,h1,h2,h3⟩:=h;exact aX h2 hb
section
variable{w w':World} {base g:Nat} {c:Mo.bH} {A:Option Addr} {n k:Nat} {t sq:Int} {h:Mo.Hl} {A1 A2 A3:Option Addr} {m1 m2 m3:Nat}
theorem dx.uo(H:dx w base g c A n k t sq h A1 A2 A3 m1 m2 m3):yY g w.heap.size h A1 A2 A3 m1 m2 m3:=⟨H.blk.lt,fun _ hb=>(H.chans.lt hb).2,fun _ hb=>(H.waits.lt hb).2,fun _ hb=>(aX H.done hb).2⟩
theorem dx.far(H:dx w base g c A n k t sq h A1 A2 A3 m1 m2 m3){top:Nat}(hl:yY g top h A1 A2 A3 m1 m2 m3)(hq:top<=q){ty:TypeId}{ys:Array Value}(hy:af w q ty ys)(h1:ty≠3)(h2:ty≠110)(o:Nat)(vs:List Value):dx (av w q o vs) base g c A n k t sq h A1 A2 A3 m1 m2 m3:=by
 obtain⟨l0,l1,l2,l3⟩:=hl;have mi:∀b,gJ w b->b≠q:=fun b hb he=>by subst he;exact gJ.not hy h1 h2 hb
 refine⟨aW H.blk ae _ _,?_,?_,bR (fun b hb=>by have:=l3 b hb;omega) _ _ _ _ H.done,H.low⟩
 ·exact(aH.move b9 H.chans (fun b hb=>aM (mi b hb) _ _) (fun b hb=>aM (by have:=l1 b hb;omega) _ _)).mono b9 (fun b hb=>eT _ _ _ hb)
 ·exact(aH.move aP H.waits (fun b hb=>aM (mi b hb) _ _) (fun b hb=>aM (by have:=l2 b hb;omega) _ _)).mono aP (fun b hb=>eT _ _ _ hb)
theorem dx.Nz{g1:Nat}(H:dx w base g c A n k t sq h g1 A2 A3 m1 m2 m3)(hi:i<h.chans.length)(y:Mo.Ch)(B:Option Addr)(d:Nat)(hd:y.buf.length<=d)(hr:bC w .i64 B y.buf)(hB:∀b,B=some b->y.buf≠[]->Ty w 3 b.block) :
 dx (av w g1 (i*5) [y.gen,y.cap,y.used,y.closed,.slice B y.buf.length d]) base g c A n k t sq {h with chans:=h.chans.set i y} g1 A2 A3 m1 m2 m3:=by
 obtain⟨ys,hg,hgb⟩:=H.chans.ty
 have mi:¬gJ w g1:=gJ.not hg ah ah
 have fV:g≠g1:=by exact W6
 refine⟨?_,?_,?_,?_,H.low⟩
 ·rw[cK];exact aW H.blk fV _ _
 ·rw[cK];exact(H.chans.Jf b9 hi _ rfl (by intro u hu;simp at hu;rcases hu with rfl|rfl|rfl|rfl|rfl<;>rfl) mi (y:=y) ⟨B,d,rfl,hd,hr,fun ad ha hne=>.inl (hB ad ha hne)⟩).mono b9 (fun b hb=>eT _ _ _ hb)
 ·exact(aH.move aP H.waits (fun b hb=>aM (fun he=>by subst he;exact mi hb) _ _) (fun b hb=>aM (fun he=>by
   subst he
   obtain⟨rows,_,h2,_⟩:=H.waits
   exact ed h2 hg ah hb.symm) _ _)).mono aP (fun b hb=>eT _ _ _ hb)
 ·exact bR (fun b hb he=>by subst he;exact ed H.done hg ah hb.symm) _ _ _ _ H.done
end
theorem RR(A:Option Addr)(n m n' m':Nat):(Value.slice A n m).ownBlock=(Value.slice A n' m').ownBlock:=by cases A<;>rfl
def ku(w:World)(g:Nat)(v1 v3:Value)(w':World):Prop:=∀b,b<w.heap.size->b≠g->v1.ownBlock≠some b->v3.ownBlock≠some b->w'.heap[b]?=w.heap[b]?
def FrH(w:World)(g:Nat)(w':World):Prop:=∀v1 v3,w.cell? ⟨g,1,none⟩=some v1->w.cell? ⟨g,3,none⟩=some v3->ku w g v1 v3 w'
section
variable{w w1 w2:World} {g:Nat} {v1 v3:Value}
theorem ku.ext(h:Below w w w1):ku w g v1 v3 w1:=fun b hb _ _ _=>h.block b hb
theorem ku.more(h:ku w g v1 v3 w1)(hs:w.heap.size<=w1.heap.size)(hb:Below w1 w1 w2):ku w g v1 v3 w2:=fun b h0 h1 h2 h3=>(hb.block b ae).trans (h b h0 h1 h2 h3)
theorem ku.drew(h:ku w g v1 v3 w1):ku w g v1 v3 w1.drew:=h
theorem ku.NA(h:ku w g v1 v3 w1)(o:Nat)(vs:List Value):ku w g v1 v3 (av w1 g o vs):=fun b h0 h1 h2 h3=>(aM h1 _ _).trans (h b h0 h1 h2 h3)
theorem ku.RS(h:ku w g v1 v3 w1)(hq:v1.ownBlock=some q)(o:Nat)(vs:List Value):ku w g v1 v3 (av w1 q o vs):=fun b h0 h1 h2 h3=>(aM (fun e=>h2 (by rw[hq,e])) _ _).trans (h b h0 h1 h2 h3)
theorem ku.new(h:ku w g v1 v3 w1)(hq:w.heap.size<=q)(o:Nat)(vs:List Value):ku w g v1 v3 (av w1 q o vs):=fun b h0 h1 h2 h3=>(aM ae _ _).trans (h b h0 h1 h2 h3)
theorem ku.tell(h:ku w g v1 v3 w1)(hs:w.heap.size<=w1.heap.size)(hr:∀b,b<w1.heap.size->some b≠v.ownBlock->w2.heap[b]?=w1.heap[b]?)(hv:v.ownBlock=v3.ownBlock):ku w g v1 v3 w2:=fun b h0 h1 h2 h3=>(hr b ae (fun e=>h3 (by rw[<-hv,e]))).trans (h b h0 h1 h2 h3)
end
theorem dx.P2{t:Int}(H:dx w base g c A n k t sq h A1 A2 A3 m1 m2 m3)(w':World)(hf:ku w g (.slice A1 h.chans.length m1) (.slice A3 h.done.length m3) w'):FrH w g w':=by
 intro v1 v3 h1 h3;rw[H.blk.cell 1]at h1;rw[H.blk.cell 3]at h3;injection h1 with h1
 injection h3 with h3
 subst h1;subst h3;exact hf
theorem dx.frX{t:Int}(H:dx w base g c A n k t sq h A1 A2 A3 m1 m2 m3)(hf:FrH w g w'):ku w g (.slice A1 h.chans.length m1) (.slice A3 h.done.length m3) w':=hf _ _ (H.blk.cell 1) (H.blk.cell 3)
def KS(base g:Nat)(c:Mo.bH)(A:Option Addr)(n k:Nat)(t sq:Int)(A1 A3:Option Addr)(m1 m3:Nat)(p:Mo.Hl×Mo.Rs)(w:World)(e:Ending)(w':World):Prop:=e=.returned (.agg #[p.2.seq,p.2.cs,p.2.code,p.2.value])/\(∃A2 m2,dx w' base g c A n k t sq p.1 A1 A2 A3 m1 m2 m3)/\Below base w w'/\FrH w g w'
theorem EX{B:Nat}{a:World}(h:Below B a w)(hB:B<=w.heap.size)(o:Obj):Below B a (w.alloc o):=h.alloc hB o
def NC(h:Mo.Hl)(cp:Int):Sum Nat Int->Mo.Hl×Mo.Rs
 |.inl i=>({h with chans:=h.chans.set i ⟨(Mo.gD h i).gen+1,cp,true,false,[]⟩},⟨0,0,0,Mo.lU i ((Mo.gD h i).gen+1)⟩)
 |.inr e=>(h,Mo.bD e)
theorem Cn{l:List Mo.Ch}{b:Bool}{x:Mo.Ch}(hx:l[i]?=some x)(hu:x.used=true):Mo.ey ba l i b (k+1)=Mo.ey ba l (i+1) b k:=by rw[Mo.ey];rw[hx];dsimp only;rw[au hu]
theorem Af{l:List Mo.Ch}{b:Bool}{x:Mo.Ch}(hx:l[i]?=some x)(hu:x.used=false)(hg:min ba 4095<=x.gen):Mo.ey ba l i b (k+1)=Mo.ey ba l (i+1) true k:=by rw[Mo.ey];rw[hx];dsimp only;rw[ai (by rw[hu];decide),au hg]
theorem EY{l:List Mo.Ch}{b:Bool}{x:Mo.Ch}(hx:l[i]?=some x)(hu:x.used=false)(hg:¬min ba 4095<=x.gen):Mo.ey ba l i b (k+1)=.inl i:=by rw[Mo.ey];rw[hx];dsimp only;rw[ai (by rw[hu];decide),ai hg]
section
variable(w:World) {base g:Nat} {c:Mo.bH} {A:Option Addr} {n k:Nat} {t sq:Int} {h:Mo.Hl} {A1 A2 A3:Option Addr} {m1 m2 m3:Nat}
theorem ND(H:dx w base g c A n k t sq h A1 A2 A3 m1 m2 m3)(hb:RQ h)(hg1:c.ba<=4095)(cp:Int) :
 Calls prog 274 #[.pointer g,cp] w (KS base g c A n k t sq A1 A3 m1 m3 (Mo.pZ c h cp) w):=by
 have bG:Hid (Below w w (w.alloc ij)):=ak (aj w) _
 have kK:Hid (af (w.alloc ij) w.heap.size 48 #[oZ,oZ,oZ,oZ]):=af.new _ _ _
 have qF:=aa (H.more bG)
 have pH:=aa H.uo
 have HH:=aa H
 have rW:=aa H.P2
 have eP:base<=w.heap.size:=bm H.low (Nat.le_of_lt H.blk.lt)
 obtain⟨cQ,-,fV⟩:=af.aK qF.blk
 unfold mI at cQ
 have Jh:g<w.heap.size:=H.blk.lt
 have yL:=aa hb
 clear H hb
 by_cases aA:cp<0\/c.cap<cp
 ·have HG:Hid (Mo.pZ c h cp=(h,Mo.bD 1)):=by unfold Hid Mo.pZ;rw[au aA]
  rw[HG.out];have HQB:Hid (Below base w (w.alloc (pD 0 0 1 0))):=(ak (aj w) _).mono eP;have HQV:=aa (HH.more (ak (aj w) (pD 0 0 1 0)));have mS:KS base g c A n k t sq A1 A3 m1 m3 (h,Mo.bD 1) w (.returned (.agg #[oZ,oZ,.int .i64 1,oZ])) (w.alloc (pD 0 0 1 0)):=⟨rfl,⟨_,_,HQV⟩,HQB,rW _ (.ext (ak (aj w) _))⟩
  by_cases h0:cp<0
  ·exact aa4
  ·have h1:c.cap<cp:=aA.resolve_left h0;exact aa4
 ·have a1:¬cp<0:=fun h=>aA (.inl h);have a2:¬c.cap<cp:=fun h=>aA (.inr h);obtain⟨R,hR⟩:=aD (Mo.ey c.ba h.chans 0 false h.chans.length);have HG:Hid (Mo.pZ c h cp=NC h cp R):=by
   unfold Hid Mo.pZ;rw[ai aA,hR];unfold NC;rfl
  have HR:=aa hR.symm;clear aA hR;go_enter func274,ntmps274;go_wp2_with fail;obtain⟨cl,lO⟩:=aD h.chans.length;have gu:=aa lO;rw[<-lO]at HR ⊢;have aed:cl<=8:=by rw[lO];exact yL.chans
  clear lO;have aee:Hid (dx (w.alloc ij) base g c A n k t sq h A1 A2 A3 m1 m2 m3):=qF.out;go_loopw[5,26] (fun b i wr=>∃(j:Nat) (s:Bool),j<=cl/\i=j/\b=s/\Hid (Below (w.heap.size+1) (w.alloc ij) wr)/\Hid (Mo.ey c.ba h.chans j s (cl-j)=R)) (fun _ i _=>cl-(intOf i).toNat);case atStart=>exact⟨0,false,aY _,rfl,rfl,Below.refl _ _,by unfold Hid;rw[Nat.sub_zero];exact HR.out⟩
  case round =>
   obtain⟨j,s,hj,rfl,rfl,HX,HO⟩:=hrel;have hX':Below (w.alloc ij).heap.size (w.alloc ij) wr:=HX.mono aF;have HV:=aa (qF.more hX');have HQ:=aa (kK.ag hX');obtain⟨cQ,-,fV⟩:=af.aK HV.blk;unfold mI at cQ;clear hX';by_cases hlt:j<cl
   ·obtain⟨x,hx⟩:∃x,h.chans[j]?=some x:=⟨_,cD (by rw[<-gu.out];exact hlt)⟩
    obtain⟨ad,B,d,hA,Co,jD,c0,c1,c2,c3,c4⟩:=oD.row HV.Dx hx;have hxg:=yL.gen x (bP hx);have Du:=aa hx;subst hA;clear hx Co jD;obtain⟨bl,hbl⟩:=aD x.buf.length;rw[<-hbl]at c4;clear hbl;have yZ:cl-j=(cl-(j+1))+1:=ae;rcases hu:x.used with _|_
    ·rw[hu]at c2;by_cases Cp:c.ba<=x.gen
     ·have HN:Hid (Mo.ey c.ba h.chans (j+1) true (cl-(j+1))=R):=by
       unfold Hid;rw[<-HO.out,yZ,Af Du.out hu ae]
      have a3:¬4095<c.ba:=ae
      have d1:decide (c.ba<=x.gen)=true:=dg Cp
      clear hu yZ Cp
      go_wp2_with fail
      go_quiet(fail)
      go_wp2_with fail
      go_roundw
      case rel=>exact⟨j+1,true,ae,by go_num,rfl,bO (EX HX (by have:=HX.size;simp at this;omega) _) _,HN⟩
      case measure=>simp[intOf];omega
     ·obtain⟨g1,mm,hv,hg0,hg1'⟩:=HV.chans.form (by have:=bP Du;intro he;rw[he]at this;cases this);injection hv with e1 e2 e3
      injection e1 with e1
      subst e1 e3;clear e2;have hR:R=.inl j:=by rw[<-HO.out,yZ,EY Du.out hu ae]
      have hch:Mo.gD h j=x:=by unfold Mo.gD;rw[eR,Du.out];rfl
      have GW:Hid (Mo.pZ c h cp=({h with chans:=h.chans.set j ⟨x.gen+1,cp,true,false,[]⟩},⟨0,0,0,Mo.lU j (x.gen+1)⟩)):=by unfold Hid;rw[HG.out,hR];unfold NC;dsimp only;rw[hch]
      have f0:=HV.chans.ck (j*5);have f1:=HV.chans.ck (j*5+1);have f2:=HV.chans.ck (j*5+2);have f3:=HV.chans.ck (j*5+3);have f4:=HV.chans.ck (j*5+4);rw[nC,Nat.zero_add]at c0 c1 c2 c3 c4;dsimp only at c1 c2 c3 c4;have a3:¬4095<c.ba:=ae;have d1:decide (c.ba<=x.gen)=false:=bJ Cp;have e5:IntKind.i64.wrap (x.gen+1)=x.gen+1:=bK _ ae;have t0:(0:Int)<=(j:Int):=ae;have t1:(j:Int)<(cl:Int):=ae;have HHA:=aa (fun wx=>Bn wx j (x.gen+1));have t2:j<h.chans.length:=cE Du;clear hu yZ Cp hR hch;go_wp2_with fail;go_quiet(fail);go_wp2_with fail;clear d1 a3;go_region;all_goals
       go_wp2_with fail;have KT:yY g w.heap.size {h with chans:=h.chans.set j ⟨x.gen+1,cp,true,false,[]⟩} g1 A2 A3 m1 m2 m3:=by unfold yY;dsimp only;rw[cK];exact pH.out
       have hD:=bO (ak (aj wr) (.cells #[x.gen,x.cap,false,x.closed,.slice B bl d] 83)) (n:=nq+1);have hV2:=HV.more hD;have vU:=HQ.ag hD;have W7:g1<w.heap.size:=pH.2.1 g1 rfl;have W8:=hV2.Nz (i:=j) (cE Du) ⟨x.gen+1,cp,true,false,[]⟩ none 0 (aS _) (bC.nil _ _ _) (fun b hb=>by cases hb);have sf:=aW vU (b:=w.heap.size) (g:=g1) ae [.int .i64 (x.gen+1),cp,true,false,oN] (j*5);have oU:Below base w (av (World.drewN (wr.alloc (.cells #[x.gen,x.cap,false,x.closed,.slice B bl d] 83)) (nq+1)) g1 (j*5) [.int .i64 (x.gen+1),cp,true,false,oN]):=aw hg0 _ _ _ ((bG.mono eP).trans ((HX.mono ae).trans (hD.mono (by have:=HX.size;simp at this;omega))));have sg:=aa (ku.RS (q:=g1) (v1:=.slice g1 h.chans.length m1) (v3:=.slice A3 h.done.length m3) (g:=g) (ku.ext (bG.trans ((HX.mono (bU _)).trans (hD.mono (by have:=HX.size;simp at this;omega))))) rfl (j*5) [.int .i64 (x.gen+1),cp,true,false,oN]);change Calls _ _ _ (av (World.drewN (wr.alloc (.cells #[x.gen,x.cap,false,x.closed,.slice B bl d] 83)) (nq+1)) g1 (j*5) [.int .i64 (x.gen+1),cp,true,false,oN]) _;clear hD hV2 vU cQ fV c0 c1 c2 c3 c4 f0 f1 f2 f3 f4 t0 t1 t2 hg1';generalize av (World.drewN (wr.alloc (.cells #[x.gen,x.cap,false,x.closed,.slice B bl d] 83)) (nq+1)) g1 (j*5) [.int .i64 (x.gen+1),cp,true,false,oN]=wy at *;have xF:=aa W8;have jc:=aa sf;have bZ:=aa oU;have ac2:=aa KT;clear W8 sf oU KT;refine(HHA _).mono ?_;rintro e wz ⟨rfl,rfl⟩;obtain⟨hv,hhv⟩:=aD (Mo.lU j (x.gen+1));rw[<-hhv]at GW ⊢;clear hhv e5;obtain⟨dh,cW,cY⟩:=af.aK jc;go_wp2_with fail;have dZ:=aR (vs:=[oZ,oZ,oZ,hv]) jc rfl;have uS:=xF.far ac2 (aS _) jc ah ah 0 [oZ,oZ,oZ,hv];have fy:=aw eP [oZ,oZ,oZ,hv] _ 0 bZ;have uT:=rW.out _ (sg.new (q:=w.heap.size) (aS _) 0 [oZ,oZ,oZ,hv]);change bodyPost _ _ _ _ _ (av wy w.heap.size 0 [oZ,oZ,oZ,hv]);clear dh cW cY;generalize av wy w.heap.size 0 [oZ,oZ,oZ,hv]=wz at *;have eO:=fun i=>af.cell dZ i;refine bodyPost_ret (v:=.agg #[oZ,oZ,oZ,hv]) ?_ rfl ?_
       ·exact W9
       ·exact NF
    ·rw[hu]at c2;have HN:Hid (Mo.ey c.ba h.chans (j+1) s (cl-(j+1))=R):=by
      unfold Hid;rw[<-HO.out,yZ,Cn Du.out hu]
     clear hu yZ;go_wp2_with fail;go_roundw;case rel=>exact⟨j+1,s,ae,by go_num,rfl,EX HX (by have:=HX.size;simp at this;omega) _,HN⟩
     case measure=>simp[intOf];omega
   ·have vX:cl-j=0:=ae;have QE:=HO.out;rw[vX]at QE;obtain⟨dh,cW,cY⟩:=af.aK HQ;clear vX;rcases s with _|_
    ·have xx:Hid (R=.inr 6):=by unfold Hid;rw[<-QE];unfold Mo.ey;rfl
     clear QE;go_wp2_with fail;have dZ:=aR (vs:=[oZ,oZ,.int .i64 6,oZ]) HQ rfl;have uS:=HV.far pH (aS _) HQ ah ah 0 [oZ,oZ,.int .i64 6,oZ];have fy:Below base w (av wr w.heap.size 0 [oZ,oZ,.int .i64 6,oZ]):=aw eP _ _ _ ((bG.mono eP).trans (HX.mono ae));have uT:=rW.out _ ((ku.ext (bG.trans (HX.mono (bU _)))).new (q:=w.heap.size) (aS _) 0 [oZ,oZ,.int .i64 6,oZ]);change bodyPost _ _ _ _ _ (av wr w.heap.size 0 [oZ,oZ,.int .i64 6,oZ]);clear dh cW cY cQ fV;generalize av wr w.heap.size 0 [oZ,oZ,.int .i64 6,oZ]=wz at *;have eO:=fun i=>af.cell dZ i;refine bodyPost_ret (v:=.agg #[oZ,oZ,.int .i64 6,oZ]) ?_ rfl ?_
     ·exact W9
     ·rw[HG.out,xx.out];exact⟨rfl,⟨_,_,uS⟩,fy,uT⟩
    ·have xx:Hid (R=.inr 7):=by unfold Hid;rw[<-QE];unfold Mo.ey;rfl
     clear QE;go_wp2_with fail;have dZ:=aR (vs:=[oZ,oZ,.int .i64 7,oZ]) HQ rfl;have uS:=HV.far pH (aS _) HQ ah ah 0 [oZ,oZ,.int .i64 7,oZ];have fy:Below base w (av wr w.heap.size 0 [oZ,oZ,.int .i64 7,oZ]):=aw eP _ _ _ ((bG.mono eP).trans (HX.mono ae));have uT:=rW.out _ ((ku.ext (bG.trans (HX.mono (bU _)))).new (q:=w.heap.size) (aS _) 0 [oZ,oZ,.int .i64 7,oZ]);change bodyPost _ _ _ _ _ (av wr w.heap.size 0 [oZ,oZ,.int .i64 7,oZ]);clear dh cW cY cQ fV;generalize av wr w.heap.size 0 [oZ,oZ,.int .i64 7,oZ]=wz at *;have eO:=fun i=>af.cell dZ i;refine bodyPost_ret (v:=.agg #[oZ,oZ,.int .i64 7,oZ]) ?_ rfl ?_
     ·exact W9
     ·rw[HG.out,xx.out];exact⟨rfl,⟨_,_,uS⟩,fy,uT⟩
end
end Go.Proofs.YtjcjjiieblineaaGreat
