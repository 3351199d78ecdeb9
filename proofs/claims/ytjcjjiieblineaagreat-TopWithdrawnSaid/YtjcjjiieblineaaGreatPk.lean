/- Walks and plain facts. No condition. -/
import Derived.Test.YtjcjjiieblineaaGreatPh
namespace Go.Proofs.YtjcjjiieblineaaGreat
open Go.RowKit Go.Proofs.Tryz
set_option maxHeartbeats 8000000
set_option maxRecDepth 100000
set_option linter.all false
variable {c:Mo.bH}{w':World}
section
variable(w:World)
theorem NK(n a b:Int):Calls prog 67 #[n,a,b] w fun e w'=>e=.returned (Mo.iy n a b)/\w=w':=by go_enter func67,ntmps67;exact Tx
def G3(c:Mo.bH)(w:World)(e:Ending)(w':World):Prop:=∃r,e=.returned (.int .i64 r)/\(r=0↔Mo.aN c=true)/\Below w.heap.size w w'
theorem G3.no{w:World}(h:Mo.aN c=false)(hb:Below w w w'):G3 c w (.returned (.int .i64 1)) w':=⟨1,rfl,⟨fun e=>absurd e ah,fun e=>by rw[h]at e;cases e⟩,hb⟩
theorem G3.yes{w:World}(h:Mo.aN c=true)(hb:Below w w w'):G3 c w (.returned oZ) w':=⟨0,rfl,⟨fun _=>h,fun _=>rfl⟩,hb⟩
theorem za{A:Option Addr}{k n:Nat}(hn:n=c.start.length)(hr:bC w .i64 A c.start):Calls prog 41 #[.agg #[c.kind,c.threads,c.chans,c.cap,c.nodes,c.aJ,c.aB,c.tags,c.bn,c.ba,.slice A n k]] w (G3 c w):=by
 have HB:=aa (ak (aj w) (cr c A n k));have HR:=aa (hr.alloc (cr c A n k));have NL:=aa (fun x a b=>NK (w.alloc (cr c A n k)) x a b);obtain⟨b1,hb1⟩:∃b,b=Mo.iy c.threads 1 64:=⟨_,rfl⟩
 have tP:=aa (NL c.threads 1 64);rw[<-hb1]at tP;obtain⟨b2,hb2⟩:∃b,b=Mo.iy c.nodes 1 64:=⟨_,rfl⟩
 have xw:=aa (NL c.nodes 1 64);rw[<-hb2]at xw;obtain⟨b3,hb3⟩:∃b,b=Mo.iy c.aJ 1 32:=⟨_,rfl⟩
 have Dm:=aa (NL c.aJ 1 32);rw[<-hb3]at Dm;obtain⟨b4,hb4⟩:∃b,b=Mo.iy c.aB 0 4:=⟨_,rfl⟩
 have Z1:=aa (NL c.aB 0 4);rw[<-hb4]at Z1;obtain⟨b5,di⟩:∃b,b=Mo.iy c.tags 1 4294967295:=⟨_,rfl⟩
 have Z2:=aa (NL c.tags 1 4294967295);rw[<-di]at Z2;obtain⟨b6,fO⟩:∃b,b=Mo.iy c.bn 1 1048575:=⟨_,rfl⟩
 have Z3:=aa (NL c.bn 1 1048575);rw[<-fO]at Z3;have HE:Hid (Mo.aN c=(b1 && b2 && b3 && b4 && b5 && b6 && Mo.mM c)):=by unfold Hid Mo.aN;rw[hb1,hb2,hb3,hb4,di,fO]
 have HN:=aa hn;clear hb1 hb2 hb3 hb4 di fO hn hr;go_enter func41,ntmps41;go_wp2_with fail;refine tP.mono ?_;rintro e w' ⟨rfl,rfl⟩;rcases b1 with _|_
 ·exact P3
 go_wp2_with fail;refine xw.mono ?_;rintro e w' ⟨rfl,rfl⟩;rcases b2 with _|_
 ·exact P3
 go_wp2_with fail;refine Dm.mono ?_;rintro e w' ⟨rfl,rfl⟩;rcases b3 with _|_
 ·exact P3
 go_wp2_with fail;refine Z1.mono ?_;rintro e w' ⟨rfl,rfl⟩;rcases b4 with _|_
 ·exact P3
 go_wp2_with fail;refine Z2.mono ?_;rintro e w' ⟨rfl,rfl⟩;rcases b5 with _|_
 ·exact P3
 go_wp2_with fail;refine Z3.mono ?_;rintro e w' ⟨rfl,rfl⟩;rcases b6 with _|_
 ·exact P3
 clear tP xw Dm Z1 Z2 Z3;by_cases hk:c.kind=1\/c.kind=2
 ·obtain⟨b1,hb1⟩:∃b,b=Mo.iy c.cap 1 16:=⟨_,rfl⟩
  have tP:=aa (NL c.cap 1 16);rw[<-hb1]at tP;replace HE:Hid (Mo.aN c=(b1 && c.chans==0 && c.ba==0 && decide (c.start.length=0))):=by unfold Hid;rw[HE.out];unfold Mo.mM;rw[au hk,hb1];rfl
  clear hb1;rcases hk with hk|hk
  all_goals
   have d1:(c.kind==1)=decide (c.kind=1):=rfl;rw[hk]at d1;go_wp2_with fail;refine tP.mono ?_;rintro e w' ⟨rfl,rfl⟩;rcases b1 with _|_
   ·exact P3
   by_cases h2:c.chans=0;rotate_left
   ·have d2:(c.chans !=0)=true:=by simpa using h2
    go_wp2_with fail;go_ret;exact G3.no (by rw[HE.out];simp[h2]) HB
   have d2:(c.chans !=0)=false:=by simpa using h2
   by_cases h3:c.ba=0;rotate_left
   ·have d3:(c.ba !=0)=true:=by simpa using h3
    go_wp2_with fail;go_ret;exact G3.no (by rw[HE.out];simp[h3]) HB
   have d3:(c.ba !=0)=false:=by simpa using h3
   rcases n with _|n
   ·go_wp2_with fail;go_ret;exact G3.yes (by rw[HE.out, <-HN.out];simp[h2,h3]) HB
   ·have d4:decide ((0:Int)<((n+1:Nat):Int))=true:=dg ae;go_wp2_with fail;go_ret;exact G3.no (by rw[HE.out, <-HN.out];simp) HB
 have d1:(c.kind==1)=false:=by simp;omega
 have d2:(c.kind==2)=false:=by simp;omega
 by_cases h3:c.kind=3;rotate_left
 ·have d3:(c.kind !=3)=true:=by simpa using h3
  replace HE:Hid (Mo.aN c=false):=by unfold Hid;rw[HE.out];unfold Mo.mM;rw[ai hk,ai h3];simp
  clear hk;go_wp2_with fail;go_ret;exact G3.no HE HB
 have d3:(c.kind !=3)=false:=by simpa using h3
 obtain⟨b1,hb1⟩:∃b,b=Mo.iy c.chans 1 8:=⟨_,rfl⟩
 have tP:=aa (NL c.chans 1 8);rw[<-hb1]at tP;obtain⟨b2,hb2⟩:∃b,b=Mo.iy c.cap 0 8:=⟨_,rfl⟩
 have xw:=aa (NL c.cap 0 8);rw[<-hb2]at xw;obtain⟨b3,hb3⟩:∃b,b=Mo.iy c.ba 1 4095:=⟨_,rfl⟩
 have Dm:=aa (NL c.ba 1 4095);rw[<-hb3]at Dm;replace HE:Hid (Mo.aN c=(b1 && b2 && b3 && decide ((c.start.length:Int)<=c.chans) && c.start.all fun n=>Mo.iy n 0 c.cap)):=by unfold Hid;rw[HE.out];unfold Mo.mM;rw[ai hk,au h3,hb1,hb2,hb3];rfl
 have pn:Hid (b1=true->c.chans<=8):=by unfold Hid;rw[hb1];unfold Mo.iy;simp
 clear hk h3 hb1 hb2 hb3;go_wp2_with fail;refine tP.mono ?_;rintro e w' ⟨rfl,rfl⟩;rcases b1 with _|_
 ·exact P3
 go_wp2_with fail;refine xw.mono ?_;rintro e w' ⟨rfl,rfl⟩;rcases b2 with _|_
 ·exact P3
 go_wp2_with fail;refine Dm.mono ?_;rintro e w' ⟨rfl,rfl⟩;rcases b3 with _|_
 ·exact P3
 have hc8:=pn.out (by first|rfl|trivial);clear pn;by_cases h4:(n:Int)<=c.chans;rotate_left
 ·have d4:decide (c.chans<(n:Int))=true:=dg ae;go_wp2_with fail;go_ret;exact G3.no (by rw[HE.out,bJ (show ¬((c.start.length:Int)<=c.chans)by rw[<-HN.out];omega)];simp) HB
 have d4:decide (c.chans<(n:Int))=false:=bJ ae;have HEA:Hid (Mo.aN c=c.start.all fun n=>Mo.iy n 0 c.cap):=by unfold Hid;rw[HE.out, <-HN.out,dg h4];rfl
 have hn8:n<=8:=ae;clear HE tP xw Dm;go_wp2_with fail;go_loopw[4,99] (fun _ i wr=>∃j:Nat,j<=n/\i=j/\wr=w.alloc (cr c A n k)/\Hid (∀(l:Nat) (y:Int),l<j->c.start[l]?=some y->(!Mo.iy y 0 c.cap)=false)) (fun _ i _=>n-(intOf i).toNat);case atStart=>exact⟨0,aY _,rfl,rfl,fun l _ h=>absurd h (Nat.not_lt_zero _)⟩
 case round =>
  obtain⟨j,hj,rfl,rfl,HX⟩:=hrel;by_cases hlt:j<n
  ·obtain⟨ad,z,hA,hz,hc⟩:=bC.at_ HR (i:=j) (by rw[<-HN.out];exact hlt);subst hA;have HZ:=aa hz;have HI:=aa (NL z 0 c.cap);obtain⟨b,hb⟩:=aD (Mo.iy z 0 c.cap);rw[<-hb]at HI;have yL:=aa hb;clear hz hb;go_wp2_with fail;refine HI.mono ?_;rintro e w' ⟨rfl,rfl⟩;rcases b with _|_
   ·go_wp2_with fail;go_ret;refine G3.no ?_ HB;rw[HEA.out,List.all_eq_false];exact⟨z,dO HZ,by rw[<-yL.out];decide⟩
   ·have HP:Hid ((!Mo.iy z 0 c.cap)=false):=by unfold Hid;rw[<-yL.out];rfl
    clear yL;go_wp2_with fail;go_roundw;case rel=>exact⟨j+1,ae,by go_num,by first|rfl|trivial,rh HZ HX HP⟩
    case measure=>simp[intOf];omega
  ·go_wp2_with fail;go_ret;refine G3.yes ?_ HB;rw[HEA.out,List.all_eq_true];intro y hy;obtain⟨l,hl,hly⟩:=List.mem_iff_getElem.1 hy;have h:=HX.out l y (by have:=HN.out;omega) (by rw[cD hl,hly]);simpa using h
end
end Go.Proofs.YtjcjjiieblineaaGreat
