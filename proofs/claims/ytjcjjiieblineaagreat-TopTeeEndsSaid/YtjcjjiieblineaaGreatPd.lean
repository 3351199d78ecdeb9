/- Walks and plain facts. No condition. -/
import Derived.Test.YtjcjjiieblineaaGreatPb
import Derived.Test.YtjcjjiieblineaaGreatPc
namespace Go.Proofs.YtjcjjiieblineaaGreat
open Go.RowKit Go.Proofs.Tryz Mo
set_option maxHeartbeats 8000000
set_option maxRecDepth 100000
set_option linter.all false
variable {w w' w1:World}{n g base k m i t j b:Nat}{α:Type}{A:Option Addr}{c:Mo.bA}{e:TypeId}{v a0 a1 u:Value}{S S':Nat->Prop}{zs:List Int}{xs:List α}{f:α->List Value}{y z:α}
theorem Ts(i:Nat)(x y:Int)(a:0<=x)(d:x<18446744073709551616)(q:0<=y)(h:y<18446744073709551616)(l:x.toNat%2 ^ i=0)(o:y.toNat<2 ^ i):bits BinOp.or IntKind.u64 x y=x+y:=by rw[u64_or _ _ a d q h,nat_join i _ _ l o];omega
section
variable(w:World)
theorem uC(d a:Int):Calls prog 141 #[.agg #[d,a]] w fun e w'=>e=.returned (jz ⟨d,a⟩)/\Below w w w':=by
 go_enter func141,ntmps141;go_wp2;all_goals go_ret
 all_goals exact⟨cr (by rw[Bool.eq_iff_iff];simp[jz]<;>omega),ak (aj w) _⟩
theorem gI(d a:Int):Calls prog 103 #[.agg #[d,a]] w fun e w'=>e=.returned (.int .u64 (bF ⟨d,a⟩))/\Below w w w':=by
 rcases b:jz ⟨d,a⟩with _|_
 ·obtain⟨h,f⟩:=av b (uC (w.alloc (.cells #[d,a] 35)) d a);rw[b]at f;clear b;go_enter func103,ntmps103;go_wp2_with fail;refine f.mono ?_;rintro e k ⟨rfl,c⟩;have g:=ae (Below.trans (ak (aj w) (.cells #[d,a] 35)) (c.mono aD));clear c;go_wp2;go_ret;exact⟨kR (by unfold bF;rw[h.Y];rfl),g⟩
 ·have j:=b;simp only[jz,bP]at j;obtain⟨l,m,n,o⟩:=j;obtain⟨h,f⟩:=av b (uC (w.alloc (.cells #[d,a] 35)) d a);rw[b]at f;have q:IntKind.u64.wrap a=a:=by simp only[iW];omega
  have r:IntKind.u64.wrap (d+1)=d+1:=by simp only[iW];omega
  have s:IntKind.i64.wrap (d+1)=d+1:=cD _ aa;have t:IntKind.u64.wrap (a*65536)=a*65536:=by simp only[iW];omega
  have u:bits BinOp.or IntKind.u64 (a*65536) (d+1)=a*65536+(d+1):=Ts 16 _ _ aa aa aa aa aa aa;clear b;go_enter func103,ntmps103;go_wp2_with fail;refine f.mono ?_;rintro e k ⟨rfl,c⟩;have v:∀i,k.cell? ⟨w,i,none⟩=_:=fun i=>c.cell (p:=⟨w,i,none⟩) aD;have g:=ae (Below.trans (ak (aj w) (.cells #[d,a] 35)) (c.mono aD));clear c;go_wp2;go_ret;exact⟨kR (by unfold bF;rw[h.Y];simp;omega),g⟩
theorem abd(x:Int)(a:0<=x)(d:x<18446744073709551616):bits BinOp.and IntKind.u64 x 65535=x%65536:=by rw[u64_and _ _ a d aa aa,show(65535:Int).toNat=2 ^ 16-1 from rfl,Nat.and_two_pow_sub_one_eq_mod];omega
theorem BI(x:Int)(h0:0<=x)(h1:x<18446744073709551616):bits BinOp.and IntKind.u64 x 4294967295=x%4294967296:=by exact WT
theorem Oh{w:World}{t:TypeId}(h:af w g t #[a0,a1])(u0 u1:Value):af ((w.setCell ⟨g,0,none⟩ u0).setCell ⟨g,1,none⟩ u1) g t #[u0,u1]:=(h.bj 0 u0).bj 1 u1
theorem Oi{a w:World}(h:Below a a w)(d:a.heap.size<=g)(u0 u1:Value):Below a a ((w.setCell ⟨g,0,none⟩ u0).setCell ⟨g,1,none⟩ u1):=(h.setCell (p:=⟨g,0,none⟩) d _).setCell (p:=⟨g,1,none⟩) d _
theorem Ja{w:World}(d:g=w.heap.size)(a:Below w w w1)(h:af w1 g 35 #[a0,a1])(u0 u1:Value) :
 af ((w1.setCell ⟨g,0,none⟩ u0).setCell ⟨g,1,none⟩ u1) g 35 #[u0,u1]/\Below w w ((w1.setCell ⟨g,0,none⟩ u0).setCell ⟨g,1,none⟩ u1) :=
 ⟨Oh h u0 u1,Oi a (by rw[d];exact aS _) u0 u1⟩
theorem Aw(x:Int)(h:0<=x)(l:x<18446744073709551616) :
 Calls prog 154 #[.int .u64 x] w fun e w'=>e=.returned (.tuple #[.agg #[.int .i64 (g9 x).1.ix,.int .i64 (g9 x).1.tag],.bool (g9 x).2])/\Below w w w':=by
 have j:=abd x h l
 have k:=BI (x/65536) aa aa
 have m:IntKind.i64.wrap (x%65536)=x%65536:=cD _ aa
 have n:IntKind.i64.wrap (x%65536-1)=x%65536-1:=cD _ aa
 have o:IntKind.i64.wrap (x/65536%4294967296)=x/65536%4294967296:=cD _ aa
 obtain⟨g,b⟩:=aG (bF ⟨x%65536-1,x/65536%4294967296⟩)
 have HR:Hid (g9 x=if g≠x\/x=0 then(⟨0,0⟩,false)else(⟨x%65536-1,x/65536%4294967296⟩,true)):=by unfold Hid;rw[b];rfl
 have HWD:=ae (gI ((w.alloc (.cells #[oZ,oZ] 35)).alloc (.cells #[.int .i64 (x%65536-1),.int .i64 (x/65536%4294967296)] 35)) (x%65536-1) (x/65536%4294967296))
 rw[<-b]at HWD
 clear b
 have f:∀a,Below (w.heap.size+1+1) ((w.alloc (.cells #[oZ,oZ] 35)).alloc (.cells #[.int .i64 (x%65536-1),.int .i64 (x/65536%4294967296)] 35)) a ->
  af a w 35 #[oZ,oZ]/\af a (w.heap.size+1) 35 #[.int .i64 (x%65536-1),.int .i64 (x/65536%4294967296)]/\Below w w a:=by
  intro a c
  exact⟨((af.new w _ _).alloc _).below c aa,(af.newAt (w.alloc (.cells #[oZ,oZ] 35)) _ _ aD).below c aa,(ak (ak (aj w) _) _).trans (c.mono aa)⟩
 have MID:=ae f
 clear f
 by_cases d:g≠x\/x=0
 ·have d1:(g !=x || x==0)=true:=by simpa using d
  have HQ:=ae d;clear d;rcases d2:(g !=x)with _|_
  ·rw[d2]at d1;have d3:(x==0)=true:=d1;exact abe
  ·exact abe
 ·have d2:(g !=x)=false:=by simp;omega
  have d3:(x==0)=false:=by simp;omega
  have HQ:=ae d;clear d;go_enter func154,ntmps154;go_wp2_with fail;refine HWD.mono ?_;rintro e a ⟨rfl,c⟩;obtain⟨k0,k1,kb⟩:=MID.Y a (c.mono aD);obtain⟨hc0,hf0,hz0⟩:=af.aM k0;have hc1:=fun i=>af.cell k1 i;go_wp2_with fail;obtain⟨Dn,C5⟩:=Ja rfl kb k0 (.int .i64 (x%65536-1)) (.int .i64 (x/65536%4294967296));generalize((a.setCell ⟨w,0,none⟩ (.int .i64 (x%65536-1))).setCell ⟨w,1,none⟩ (.int .i64 (x/65536%4294967296)))=wf at Dn C5 ⊢;have np:=fun i=>af.cell Dn i;refine bodyPost_ret (v:=.tuple #[.agg #[.int .i64 (x%65536-1),.int .i64 (x/65536%4294967296)],true]) ?_ rfl ?_
  ·simp[results,results154,go_sem,np]
  ·rw[HR.Y,ah HQ.Y];exact⟨rfl,C5⟩
theorem Tt(H:Int)(a:World):(Builtin.min_ #[3,3] 3 #[.int .i64 H,.int .i64 4294967295]).run prog a=.ok (.int .i64 (min H 4294967295)) a:=by
 have e:(if(4294967295:Int)<H then(4294967295:Int)else H)=min H 4294967295:=by split<;>omega
 show Result.ok (Value.int .i64 (if(4294967295:Int)<H then 4294967295 else H)) a=_;rw[e]
theorem KD(d a last:Int)(H:a<=4294967295) :
 Calls prog 233 #[.agg #[d,a],last] w fun e w'=>e=.returned (.tuple #[.agg #[.int .i64 (fy ⟨d,a⟩ last).1.ix,.int .i64 (fy ⟨d,a⟩ last).1.tag],.bool (fy ⟨d,a⟩ last).2])/\Below w w w':=by
 have G:=Tt last
 obtain⟨m,B⟩:=aG (min last 4294967295)
 rw[<-B]at G
 have u:Hid (fy ⟨d,a⟩ last=if a<0\/m<=a then(⟨0,0⟩,false)else if jz ⟨d,a+1⟩=true then(⟨d,a+1⟩,true)else(⟨0,0⟩,false)):=by unfold Hid;rw[B];rfl
 clear B
 by_cases b:a<0
 ·have d1:decide (a<0)=true:=eE b;have l:=ae b;clear b;go_enter func233,ntmps233;go_wp2;refine bodyPost_ret (v:=.tuple #[.agg #[oZ,oZ],false]) ?_ rfl ?_
  ·simp[results,results233,go_sem]
  ·rw[u.Y,au (.inl l.Y)];exact⟨rfl,ak (ak (ak (aj w) _) _) _⟩
 have J:decide (a<0)=false:=bU b
 have q:¬(a<0):=b
 clear b
 by_cases b:m<=a
 ·have d1:decide (m<=a)=true:=eE b;have l:=ae b;clear b;go_enter func233,ntmps233;go_wp2;refine bodyPost_ret (v:=.tuple #[.agg #[oZ,oZ],false]) ?_ rfl ?_
  ·simp[results,results233,go_sem]
  ·rw[u.Y,au (.inr l.Y)];exact⟨rfl,ak (ak (ak (aj w) _) _) _⟩
 have K:decide (m<=a)=false:=bU b
 have r:¬(m<=a):=b
 clear b
 have l:Hid (¬(a<0\/m<=a)):=fun h=>h.elim q r
 have I:IntKind.i64.wrap (a+1)=a+1:=cD _ aa
 have j:=ae (uC ((((w.alloc (.cells #[d,a] 200)).alloc (.cells #[oZ,oZ] 35)).alloc (.cells #[d,.int .i64 (a+1)] 35))) d (a+1))
 have t:∀f,Below (w.heap.size+1+1+1) ((((w.alloc (.cells #[d,a] 200)).alloc (.cells #[oZ,oZ] 35)).alloc (.cells #[d,.int .i64 (a+1)] 35))) f ->
  af f (w.heap.size+1) 35 #[oZ,oZ]/\af f (w.heap.size+1+1) 35 #[d,.int .i64 (a+1)]/\Below w w f:=by
  intro f k
  exact⟨((af.newAt (w.alloc (.cells #[d,a] 200)) _ _ aD).alloc _).below k aa,(af.newAt ((w.alloc (.cells #[d,a] 200)).alloc (.cells #[oZ,oZ] 35)) _ _ aD).below k aa,(ak (ak (ak (aj w) _) _) _).trans (k.mono aa)⟩
 have p:=ae t
 clear t q r
 rcases c:jz ⟨d,a+1⟩with _|_
 ·rw[c]at j;have x:Hid ((if jz ⟨d,a+1⟩=true then((⟨d,a+1⟩:Rf),true)else(⟨0,0⟩,false))=(⟨0,0⟩,false)):=by rw[c];rfl
  clear c;go_enter func233,ntmps233;go_wp2_with fail;refine j.mono ?_;rintro e f ⟨rfl,k⟩;obtain⟨s,D,E⟩:=p.Y f (k.mono aD);obtain⟨y,A,C⟩:=af.aM s;have z:=fun i=>af.cell D i;go_wp2_with fail;have o:=Oh s oZ oZ;have n:=Oi E (g:=w.heap.size+1) aa oZ oZ;generalize((f.setCell ⟨w.heap.size+1,0,none⟩ oZ).setCell ⟨w.heap.size+1,1,none⟩ oZ)=wf at o n ⊢;have F:=fun i=>af.cell o i;refine bodyPost_ret (v:=.tuple #[.agg #[oZ,oZ],false]) ?_ rfl ?_
  ·simp[results,results233,go_sem,F]
  ·rw[u.Y,ah l.Y,x.Y];exact⟨rfl,n⟩
 ·rw[c]at j;have x:Hid ((if jz ⟨d,a+1⟩=true then((⟨d,a+1⟩:Rf),true)else(⟨0,0⟩,false))=(⟨d,a+1⟩,true)):=by rw[c];rfl
  clear c;go_enter func233,ntmps233;go_wp2_with fail;refine j.mono ?_;rintro e f ⟨rfl,k⟩;obtain⟨s,D,E⟩:=p.Y f (k.mono aD);obtain⟨y,A,C⟩:=af.aM s;have z:=fun i=>af.cell D i;go_wp2_with fail;have o:=Oh s d (.int .i64 (a+1));have n:=Oi E (g:=w.heap.size+1) aa d (.int .i64 (a+1));generalize((f.setCell ⟨w.heap.size+1,0,none⟩ d).setCell ⟨w.heap.size+1,1,none⟩ (.int .i64 (a+1)))=wf at o n ⊢;have F:=fun i=>af.cell o i;refine bodyPost_ret (v:=.tuple #[.agg #[d,.int .i64 (a+1)],true]) ?_ rfl ?_
  ·simp[results,results233,go_sem,F]
  ·rw[u.Y,ah l.Y,x.Y];exact⟨rfl,n⟩
theorem KE(d a:Int):Calls prog 240 #[.agg #[d,a]] w fun e w'=>e=.returned (.agg #[d,a])/\Below w w w':=by
 go_enter func240,ntmps240;go_wp2;refine bodyPost_ret (v:=.agg #[d,a]) ?_ rfl ?_
 ·simp[results,results240,go_sem]
 ·exact⟨rfl,ak (ak (aj w) _) _⟩
theorem Dp(p g:Int):Calls prog 282 #[p,g] w fun e w'=>e=.returned (nh p g)/\w=w':=by
 go_enter func282,ntmps282;go_wp2;all_goals go_ret
 all_goals refine⟨kR ?_,rfl⟩
 all_goals unfold nh
 all_goals first
  |(rw[au aa];done)
  |(rw[ah aa];done)
  |(rw[ah aa];rw[cD (g*8) aa];exact cD _ aa)
theorem xO(h:Int):Calls prog 185 #[h] w fun e w'=>e=.returned (.tuple #[.int .i64 (eO h).1,.int .i64 (eO h).2.1,.bool (eO h).2.2])/\w=w':=by
 by_cases hq:h<8\/32768<=h
 ·have e:eO h=(0,0,false):=by unfold eO;rw[au hq]
  rw[e];clear e;by_cases h1:h<8
  ·have d1:decide (h<8)=true:=eE h1;exact abf
  ·have d1:decide (h<8)=false:=bU h1;have d2:decide (32768<=h)=true:=eE aa;exact abf
 ·have e:eO h=(h%8,h/8,true):=by unfold eO;rw[ah hq]
  rw[e];have a:h.tmod 8=h%8:=Int.tmod_eq_emod_of_nonneg aa;have b:IntKind.i64.wrap (h.tdiv 8)=h/8:=by rw[Int.tdiv_eq_ediv_of_nonneg aa];exact cD _ aa
  have d1:decide (h<8)=false:=bU aa;have d2:decide (32768<=h)=false:=bU aa;clear e;go_enter func185,ntmps185;go_wp2;refine bodyPost_ret (v:=.tuple #[.int .i64 (h%8),.int .i64 (h/8),true]) ?_ rfl ⟨rfl,rfl⟩;simp[results,results185,go_sem]
end
theorem Oj(n:Int)(h:-9223372036854775808<=n/\n<=9223372036854775807):wrap64 n=n:=by unfold wrap64;omega
theorem Jb(x:Int)(a:0<=x)(d:x<18446744073709551616):bits BinOp.and IntKind.u64 x 15=x%16:=by rw[u64_and _ _ a d aa aa,show(15:Int).toNat=15 from rfl,nat_mask4];omega
theorem Tu(x:Int)(a:0<=x)(d:x<18446744073709551616):bits BinOp.and IntKind.u64 x 1=x%2:=by rw[u64_and _ _ a d aa aa,show(1:Int).toNat=1 from rfl,nat_mask1];omega
theorem BJ(x:Int)(a:0<=x)(d:x<18446744073709551616):bits BinOp.and IntKind.u64 x 255=x%256:=by rw[u64_and _ _ a d aa aa,show(255:Int).toNat=255 from rfl,nat_mask8];omega
theorem xP(x:Int)(a:0<=x)(d:x<18446744073709551616):bits BinOp.and IntKind.u64 x 65535=x%65536:=by rw[u64_and _ _ a d aa aa,show(65535:Int).toNat=65535 from rfl,nat_mask16];omega
theorem abg(x:Int)(h0:0<=x)(h1:x<18446744073709551616):bits BinOp.and IntKind.u64 x 4294967295=x%4294967296:=by exact WT
theorem Ol(i:Nat)(x y:Int)(d:0<=x)(h:x<18446744073709551616)(l:0<=y)(o:y<18446744073709551616)(p:x%2 ^ i=0)(q:y<2 ^ i):bits BinOp.or IntKind.u64 x y=x+y:=by obtain⟨a,rfl⟩:=Int.eq_ofNat_of_zero_le d;obtain⟨b,rfl⟩:=Int.eq_ofNat_of_zero_le l;rw[u64_or _ _ d h l o,gu,gu,nat_join i a b (by exact_mod_cast p) (by exact_mod_cast q)];simp
theorem mF(i:Nat)(x y:Int)(d:0<=x)(h:x<18446744073709551616)(l:0<=y)(o:y<18446744073709551616)(q:y%2 ^ i=0)(r:x<2 ^ i):bits BinOp.or IntKind.u64 x y=x+y:=by obtain⟨a,rfl⟩:=Int.eq_ofNat_of_zero_le d;obtain⟨b,rfl⟩:=Int.eq_ofNat_of_zero_le l;rw[u64_or _ _ d h l o,gu,gu,Nat.or_comm,nat_join i b a (by exact_mod_cast q) (by exact_mod_cast r)];simp;omega
def tA(s c o v:Int):Bool:=decide (0<=s/\s<=1048575/\0<=c/\c<=15/\0<=o/\o<=255/\0<=v/\v<=4294967295)
def FV(s c o v:Int):Int:=if tA s c o v=true then s*17592186044416+c*1099511627776+o*4294967296+v else 0
def ic(n m:Int):Bool:=decide (0<=n/\n<m)
theorem YY(s c o v:Int)(a:0<=s)(d:s<=1048575)(h:0<=c)(l:c<=15)(q:0<=o)(r:o<=255)(x:0<=v)(B:v<=4294967295) :
 bits BinOp.or IntKind.u64 (bits BinOp.or IntKind.u64 (bits BinOp.or IntKind.u64 (s*17592186044416) (c*1099511627776)) (o*4294967296)) v=FV s c o v:=by
 rw[Ol 44 (s*17592186044416) (c*1099511627776) aa aa aa aa aa aa,
  Ol 40 _ (o*4294967296) aa aa aa aa aa aa,
  Ol 32 _ v aa aa aa aa aa aa]
 unfold FV
 rw[au (by simp[tA];omega)]
section
variable(w:World)
theorem uD(n:Int):Calls prog 118 #[n,.int .i64 32] w fun e w'=>e=.returned (ic n 4294967296)/\w=w':=by exact Tv
theorem BK(n:Int):Calls prog 118 #[n,.int .i64 16] w fun e w'=>e=.returned (ic n 65536)/\w=w':=by exact Tv
theorem abh(n:Int):Calls prog 118 #[n,.int .i64 8] w fun e w'=>e=.returned (ic n 256)/\w=w':=by exact Tv
theorem abi(n:Int):Calls prog 118 #[n,.int .i64 4] w fun e w'=>e=.returned (ic n 16)/\w=w':=by exact Tv
variable(s c o v:Int)
theorem xQ:Calls prog 213 #[.agg #[s,c,o,v]] w fun e w'=>e=.returned (tA s c o v)/\Below w w w':=by
 go_enter func213,ntmps213;go_wp2_with fail;go_fit (uD _ _);rintro e w' ⟨rfl,rfl⟩;rcases a:ic v 4294967296 with _|_
 ·go_wp2;go_ret;exact⟨cr (by symm;simp[ic]at a;simp[tA];omega),(Below.refl _ _).alloc (aS _) _⟩
 go_wp2_with fail;go_fit (abh _ _);rintro e w' ⟨rfl,rfl⟩;rcases b:ic o 256 with _|_
 ·go_wp2;go_ret;exact⟨cr (by symm;simp[ic]at b;simp[tA];omega),(Below.refl _ _).alloc (aS _) _⟩
 go_wp2_with fail;go_fit (abi _ _);rintro e w' ⟨rfl,rfl⟩;rcases d:ic c 16 with _|_
 ·go_wp2;go_ret;exact⟨cr (by symm;simp[ic]at d;simp[tA];omega),(Below.refl _ _).alloc (aS _) _⟩
 go_wp2;all_goals go_ret
 all_goals exact⟨cr (by rw[Bool.eq_iff_iff];simp[ic]at a b d;simp[tA]<;>omega),(Below.refl _ _).alloc (aS _) _⟩
theorem r9:Calls prog 175 #[.agg #[s,c,o,v]] w fun e w'=>e=.returned (.int .u64 (FV s c o v))/\Below w w w':=by
 rcases b:tA s c o v with _|_
 ·have HG:=ae b;clear b;go_enter func175,ntmps175;go_wp2_with fail;go_fit (xQ _ s c o v);exact abj
 ·have d:=b;simp only[tA,bP]at d;obtain⟨f,g,h,j,k,l,m,n⟩:=d;have HG:=ae b;clear b;go_enter func175,ntmps175;go_wp2_with fail;go_fit (xQ _ s c o v);rw[HG.Y];rintro e q ⟨rfl,a⟩;have r:∀i,q.cell? ⟨w,i,none⟩=_:=fun i=>a.cell (p:=⟨w,i,none⟩) aD;go_wp2;go_ret;exact⟨kR (YY s c o v f g h j k l m n),((Below.refl _ _).alloc (aS _) _).trans (a.mono aD)⟩
def rS(x:Int):Int:=x/17592186044416
def rC(x:Int):Int:=x/1099511627776%16
def rO(x:Int):Int:=x/4294967296%256
def rV(x:Int):Int:=x%4294967296
theorem adQ{a b c d h l p q:Int}(r:a=h)(x:b=l)(B:c=p)(C:d=q):Ending.returned (.agg #[a,b,c,d])=.returned (.agg #[h,l,p,q]):=by rw[r,x,B,C]
theorem lq(x:Int)(d:0<=x)(a:x<18446744073709551616) :
 Calls prog 173 #[.int .u64 x] w fun e w'=>e=.returned (.agg #[(rS x),(rC x),(rO x),(rV x)])/\Below w w w':=by
 have b:=ae a;clear a
 go_enter func173,ntmps173
 go_wp2
 refine bodyPost_ret (v:=.agg #[(wrap64 (x/17592186044416)),(wrap64 (bits BinOp.and IntKind.u64 (x/1099511627776) 15)),(wrap64 (bits BinOp.and IntKind.u64 (x/4294967296) 255)),(wrap64 (bits BinOp.and IntKind.u64 x 4294967295))]) (by simp[results,results173,go_sem]) rfl ⟨?_,(Below.refl _ _).alloc (aS _) _⟩
 have a:=b.Y
 rw[Jb _ aa aa,BJ _ aa aa,abg _ aa aa]
 refine adQ ?_ ?_ ?_ ?_<;>simp only[rS,rC,rO,rV]<;>exact Oj _ aa
def Om(o:Int):Bool:=o !=14
def Ax(s o:Int):Int:=if Om o=true then wrap64 (wrap64 (2*s)+1)else wrap64 (2*s)
theorem Ay(s c o v:Int):Calls prog 220 #[.agg #[s,c,o,v]] w fun e w'=>e=.returned (Om o)/\Below w w w':=by go_enter func220,ntmps220;go_wp2;go_ret;exact⟨rfl,(Below.refl _ _).alloc (aS _) _⟩
theorem Dq(s c o v:Int):Calls prog 207 #[.agg #[s,c,o,v]] w fun e w'=>e=.returned (Ax s o)/\Below w w w':=by
 rcases d:Om o with _|_
 all_goals
  have b:=ae d;clear d;go_enter func207,ntmps207;go_wp2_with fail;go_fit (Ay _ s c o v);rw[b.Y];rintro e f ⟨rfl,a⟩;have g:∀i,f.cell? ⟨w,i,none⟩=_:=fun i=>a.cell (p:=⟨w,i,none⟩) aD;go_wp2;go_ret;exact⟨kR (by unfold Ax;rw[b.Y];simp),((Below.refl _ _).alloc (aS _) _).trans (a.mono aD)⟩
def BL(x y:Int):Bool:=decide (Ax (rS x) (rO x)<Ax (rS y) (rO y))
theorem xR(x y:Int)(h:0<=x)(l:x<18446744073709551616)(q:0<=y)(p:y<18446744073709551616) :
 Calls prog 168 #[.int .u64 x,.int .u64 y] w fun e w'=>e=.returned (BL x y)/\Below w w w':=by
 obtain⟨f,g⟩:=av l p;clear l p
 go_enter func168,ntmps168
 go_wp2_with fail
 go_fit (lq _ x h f);rintro e i ⟨rfl,a⟩
 go_wp2_with fail
 go_fit (Dq _ _ _ _ _);rintro e j ⟨rfl,b⟩
 go_wp2_with fail
 go_fit (lq _ y q g);rintro e k ⟨rfl,c⟩
 go_wp2_with fail
 go_fit (Dq _ _ _ _ _);rintro e m ⟨rfl,d⟩
 go_wp2
 go_ret
 exact⟨rfl,ai (ai (ai a b) c) d⟩
end
def bC(c:Int×Int×Int):List Value:=[c.1,c.2.1,c.2.2]
theorem iD(c:Int×Int×Int):(bC c).length=3:=rfl
theorem uE(c:Int×Int×Int):∀u∈bC c,u.oneCell'=true:=by intro u a;simp[bC]at a;rcases a with rfl|rfl|rfl<;>rfl
theorem Jc{l:List (Int×Int×Int)}(h:dI w bC A l)(o:i<l.length) :
 ∃a d b v,A=some a/\l[i]?=some (d,b,v)/\w.cell? (a.add (i*3))=some d /\
  w.cell? ⟨(a.add (i*3)).block,(a.add (i*3)).off+1,none⟩=some b/\w.cell? ⟨(a.add (i*3)).block,(a.add (i*3)).off+2,none⟩=some v:=by
 obtain⟨a,⟨d,b,v⟩,e,f,c⟩:=dI.at_ iD ag h o
 refine⟨a,d,b,v,e,f,by simpa[add_zero]using c 0 _ rfl,?_,?_⟩
 ·have:=c 1 _ rfl;rwa [add_lit _ _ ag]at this
 ·have:=c 2 _ rfl;rwa [add_lit _ _ ag]at this
def FW(d h v:Int):Bool:=(d==1 || d==2) && ic h 65536 && ic v 4294967296
def j7(c:Int×Int×Int):Bool:=FW c.1 c.2.1 c.2.2
def bk(ki ar va:Int)(cs:List (Int×Int×Int)):Bool:=decide (1<=ki/\ki<=9) && ic ar 65536 && ic va 4294967296 && decide (cs.length<=3) && cs.all j7
theorem FX{p:α->Bool}{a:List α}(o:n=a.length)(l:¬k<n)(h:∀(j:Nat) (c:α),j<k->a[j]?=some c->p c=true):a.all p=true:=by rw[List.all_eq_true];intro c d;obtain⟨i,b⟩:=List.mem_iff_getElem?.1 d;exact h i c (by have:=dv b;omega) b
theorem Tw{p:α->Bool}{a:List α}{c:α}(h:a[k]?=some c)(d:p c=false):a.all p=false:=by
 rcases b:a.all p with _|_
 ·rfl
 ·have:=List.all_eq_true.1 b c (dB h);rw[d]at this;cases this
theorem YZ{p:α->Prop}{d:List α}{c:α}(h:∀(j:Nat) (c:α),j<k->d[j]?=some c->p c)(l:d[k]?=some c)(o:p c):∀(j:Nat) (c:α),j<k+1->d[j]?=some c->p c:=by
 intro j e f a;by_cases b:j=k
 ·subst b;rw[l]at a;injection a with a
  rw[<-a];exact o
 ·exact h j e aa a
section
variable(w:World) (d h v:Int)
theorem Tx:Calls prog 119 #[.agg #[d,h,v]] w fun e w'=>e=.returned (FW d h v)/\Below w w w':=by
 by_cases c:d=1\/d=2
 ·have a:(d==1)=true\/(d==1)=false/\(d==2)=true:=by rcases c with rfl|rfl<;>decide
  have i:FW d h v=(ic h 65536 && ic v 4294967296):=by rcases c with rfl|rfl<;>simp[FW]
  obtain⟨g,l⟩:=av i c;clear i c;rcases a with a|⟨a,j⟩
  all_goals
   go_enter func119,ntmps119;go_wp2_with fail;go_fit (BK _ _);rintro e w' ⟨rfl,rfl⟩;rcases b:ic h 65536 with _|_
   ·have f:=ae b;clear b;go_wp2;go_ret;exact⟨cr (by rw[g.Y,f.Y];rfl),ak (aj _) _⟩
   ·have f:=ae b;clear b;go_wp2_with fail;go_fit (uD _ _);rintro e w' ⟨rfl,rfl⟩;go_wp2;go_ret;exact⟨cr (by rw[g.Y,f.Y];simp),ak (aj _) _⟩
 ·have b:(d==1)=false:=by simp;omega
  have k:(d==2)=false:=by simp;omega
  clear c;go_enter func119,ntmps119;go_wp2;go_ret;exact⟨cr (by unfold FW;rw[b,k];simp),ak (aj _) _⟩
end
section
variable(w:World) (ki ar va:Int) (df:Bool) (A:Option Addr) (c:Nat) (cs:List (Int×Int×Int))
theorem mG(r:cs.length<=9223372036854775807)(s:dI w bC A cs) :
 Calls prog 77 #[.agg #[ki,ar,va,df,.slice A cs.length c]] w fun e w'=>e=.returned (bk ki ar va cs)/\Below w w w':=by
 obtain⟨n,m⟩:=aG cs.length
 rw[<-m]at r ⊢
 have f:=ae m;clear m
 have t:=ae s;clear s
 by_cases F:ki<1
 ·exact abk
 by_cases G:9<ki
 ·exact abk
 have hk:decide (1<=ki/\ki<=9)=true:=by simp;omega
 rcases h3:ic ar 65536 with _|_
 ·have hq:bk ki ar va cs=false:=by unfold bk;rw[h3];simp
  obtain⟨HQ,H3⟩:=av hq h3;clear hq h3 hk;go_enter func77,ntmps77;go_wp2_with fail;go_fit (BK _ _);rw[H3.Y];rintro e w' ⟨rfl,rfl⟩;go_wp2;go_ret;exact⟨cr HQ.symm,ak (aj _) _⟩
 rcases h4:ic va 4294967296 with _|_
 ·have hq:bk ki ar va cs=false:=by unfold bk;rw[h4];simp
  exact abl
 by_cases H:3<n
 ·have hq:bk ki ar va cs=false:=by unfold bk;rw[show decide (cs.length<=3)=false by rw[<-f.Y];simp;omega];simp
  exact abl
 have hq:bk ki ar va cs=cs.all j7:=by unfold bk;rw[h3,h4,hk,show decide (cs.length<=3)=true by rw[<-f.Y];simp;omega];simp
 obtain⟨HQ,H3,H4⟩:=aZ hq h3 h4;clear hq h3 h4 hk r
 go_enter func77,ntmps77
 go_wp2_with fail
 go_fit (BK _ _);rw[H3.Y];rintro e w' ⟨rfl,rfl⟩
 go_wp2_with fail
 go_fit (uD _ _);rw[H4.Y];rintro e w' ⟨rfl,rfl⟩
 go_wp2
 go_loopw[34] (fun i wr=>∃k:Nat,k<=n/\i=k/\Below w w wr/\Hid (∀(j:Nat) (x:Int×Int×Int),j<k->cs[j]?=some x->j7 x=true)) (fun i _=>n-(intOf i).toNat)
 case atStart=>exact⟨0,aV _,rfl,ak (aj _) _,fun j x I=>by omega⟩
 case round =>
  obtain⟨k,hk,rfl,g,o⟩:=hrel;by_cases b:k<n
  ·obtain⟨E,d,C,v,u,(q:Hid _),y,z,B⟩:=Jc (t.below g) (i:=k) (by rw[<-f.Y];exact b);subst u;go_wp2_with fail;go_fit (Tx _ _ _ _);rcases h:FW d C v with _|_
   ·have l:=ae h;clear h;rintro e D ⟨rfl,a⟩;go_wp2;go_ret;exact⟨cr (by rw[HQ.Y,Tw q.Y l.Y]),ai (ak g _) a⟩
   ·have l:=ae h;clear h;rintro e D ⟨rfl,a⟩;go_wp2;go_roundw;case rel=>exact⟨k+1,aa,by go_num,ai (ak g _) a,YZ (p:=fun x=>j7 x=true) o q l⟩
    case measure=>simp[intOf];omega
  ·go_wp2;go_ret;exact⟨cr (by rw[HQ.Y,FX f.Y b o.Y]),g⟩
end
section
variable(A B:Option Addr) (c d:Nat) (w:World)
end
def jC(p:α->Bool)(a:List α):Int:=match a.findIdx? p with|some i=>i|none=>-1
theorem BM{p:α->Bool}(a:xs[k]?=some z)(h:∀(j:Nat) (y:α),j<k->xs[j]?=some y->p y=false)(d:p z=true):jC p xs=k:=by
 have:xs.findIdx? p=some k:=by
  rw[List.findIdx?_eq_some_iff_getElem];have c:=dv a;refine⟨c,?_,fun j b=>?_⟩
  ·rw[(List.getElem?_eq_some_iff.1 a).2];exact d
  ·have:=h j _ b (cY aa);simp[this]
 unfold jC;rw[this]
theorem On{p:α->Bool}(l:n=xs.length)(d:¬k<n)(h:∀(j:Nat) (y:α),j<k->xs[j]?=some y->p y=false):jC p xs=-1:=by
 have:xs.findIdx? p=none:=by rw[List.findIdx?_eq_none_iff];intro x b;obtain⟨j,a⟩:=List.getElem?_of_mem b;exact h j x (by have:=dv a;omega) a
 unfold jC;rw[this]
theorem lW(p:α->Bool)(d:List α):decide (0<=jC p d)=d.any p:=by
 unfold jC;rw[List.any_eq,Bool.eq_iff_iff,bP,bP];cases h:d.findIdx? p with
 |none =>
  rw[List.findIdx?_eq_none_iff]at h;constructor
  ·intro a;exact absurd a ag
  ·rintro⟨x,e,b⟩;rw[h x e]at b;cases b
 |some i=>rw[List.findIdx?_eq_some_iff_getElem]at h;obtain⟨a,c,_⟩:=h;exact⟨fun _=>⟨_,List.getElem_mem a,c⟩,fun _=>by show(0:Int)<=(i:Int);omega⟩
theorem xS{p:α->Bool}(l:xs[k]?=some z)(h:∀(j:Nat) (y:α),j<k->xs[j]?=some y->p y=false)(d:p z=false):∀(j:Nat) (y:α),j<k+1->xs[j]?=some y->p y=false:=by
 intro j y b a;by_cases e:j=k
 ·subst e;rw[l]at a;injection a with a;rw[<-a];exact d
 ·exact h j y aa a
section
variable(w:World)
theorem oU(n a b:Int):Calls prog 192 #[n,a,b] w fun e w'=>e=.returned (kD n a b)/\w=w':=by go_enter func192,ntmps192;exact abm
theorem nO(n a b:Int)(h:a<=n/\n<=b):Calls prog 192 #[n,a,b] w fun e w'=>e=.returned true/\w=w':=by have:=oU w n a b;rw[show kD n a b=true by unfold kD;exact eE h]at this;exact this
end
def zU(a z:Int):Bool:= !kD z 0 a
def zW(z:Int):Bool:= !kD z 0 4294967295
section
variable(w:World) {g:Nat} {cp:Int}
theorem Tz(z:Int)(_:g<w.heap.size)(a:w.cell? ⟨g,3,none⟩=some cp) :
 Calls prog 222 #[z,.pointer g] w fun e w'=>e=.returned (zU cp z)/\w=w':=by
 go_enter func222,ntmps222
 go_wp2_with fail
 go_fit (oU w z 0 cp)
 exact TA
theorem Oo(d:g<w.heap.size/\w.cell? ⟨g,3,none⟩=some cp)(z:Int)(a:World)(h:Below w w a) :
 Calls prog 222 #[z,.pointer g] a fun e b=>e=.returned (zU cp z)/\Below a a b :=
 (Tz a z (bL d.1 h.size) ((h.cell (p:=⟨g,3,none⟩) d.1).trans d.2)).mono fun _ _ ⟨h1,h2⟩=>⟨h1,h2▸aj a⟩
theorem TC(d:g<w.heap.size/\w.cell? ⟨g,3,none⟩=some cp)(A:Option Addr)(m:Nat)(a:List Int)(n:Nat)(l:n=a.length)(o:bJ w .i64 A a)(s:n<=100000) :
 Calls prog 242 #[.slice A n m,.func (.func 222) #[] #[.pointer g]] w fun e w'=>e=.returned (jC (zU cp) a)/\Below w w w':=by
 obtain⟨HN,b,p⟩:=aZ l o (fun z w' (f:Below w w w')=>Oo w d z w' f)
 clear l o d
 go_enter func242,ntmps242
 go_wp2
 go_loopw[5,8] (fun _ i wr=>∃k:Nat,k<=n/\i=k/\Hid (Below w w wr)/\Hid (∀(j:Nat) (y),j<k->a[j]?=some y->(zU cp) y=false)) (fun _ i _=>n-(intOf i).toNat)
 case atStart=>exact⟨0,aV _,rfl,aj w,fun j _ h=>absurd h (Nat.not_lt_zero _)⟩
 case round =>
  obtain⟨k,d,rfl,HB,HX⟩:=hrel;by_cases hlt:k<n
  ·obtain⟨q,z,c,(HZ:Hid _),r⟩:=bJ.at_ (b.below HB) (i:=k) (by rw[<-HN.Y];exact hlt);subst c;have HC:=ae (p z wr HB);skip;rcases hp:(zU cp) z with _|_
   ·exact mk7
   ·exact mk8
  ·exact mk4
theorem TD(d:g<w.heap.size/\w.cell? ⟨g,3,none⟩=some cp)(A:Option Addr)(m:Nat)(a:List Int)(n:Nat)(h:n=a.length)(l:bJ w .i64 A a)(o:n<=100000) :
 Calls prog 221 #[.slice A n m,.func (.func 222) #[] #[.pointer g]] w fun e w'=>e=.returned (a.any (zU cp))/\Below w w w':=by
 obtain⟨HI,HA⟩:=av (TC w d A m a n h l o) (lW (zU cp) a)
 generalize jC (zU cp) a=r at HI HA
 clear h l d
 exact abn
end
section
variable(w:World)
theorem Oq(z:Int) :
 Calls prog 247 #[z] w fun e w'=>e=.returned (zW z)/\w=w':=by
 go_enter func247,ntmps247
 go_wp2_with fail
 go_fit (oU w z 0 4294967295)
 exact TA
theorem KF(z:Int)(a:World)(_:Below w w a) :
 Calls prog 247 #[z] a fun e b=>e=.returned (zW z)/\Below a a b :=
 (Oq a z).mono fun _ _ ⟨h1,h2⟩=>⟨h1,h2▸aj a⟩
theorem Ot(A:Option Addr)(m:Nat)(a:List Int)(n:Nat)(d:n=a.length)(l:bJ w .i64 A a)(r:n<=100000) :
 Calls prog 242 #[.slice A n m,.func (.func 247) #[] #[]] w fun e w'=>e=.returned (jC zW a)/\Below w w w':=by
 obtain⟨HN,b,g⟩:=aZ d l (fun z w' (f:Below w w w')=>KF w z w' f)
 clear d l
 go_enter func242,ntmps242
 go_wp2
 go_loopw[5,8] (fun _ i wr=>∃k:Nat,k<=n/\i=k/\Hid (Below w w wr)/\Hid (∀(j:Nat) (y),j<k->a[j]?=some y->zW y=false)) (fun _ i _=>n-(intOf i).toNat)
 case atStart=>exact⟨0,aV _,rfl,aj w,fun j _ h=>absurd h (Nat.not_lt_zero _)⟩
 case round =>
  obtain⟨k,q,rfl,HB,HX⟩:=hrel;by_cases hlt:k<n
  ·obtain⟨o,z,c,(HZ:Hid _),p⟩:=bJ.at_ (b.below HB) (i:=k) (by rw[<-HN.Y];exact hlt);subst c;have HC:=ae (g z wr HB);skip;rcases hp:zW z with _|_
   ·exact mk7
   ·exact mk8
  ·exact mk4
theorem Ou(A:Option Addr)(m:Nat)(a:List Int)(n:Nat)(d:n=a.length)(h:bJ w .i64 A a)(l:n<=100000) :
 Calls prog 221 #[.slice A n m,.func (.func 247) #[] #[]] w fun e w'=>e=.returned (a.any zW)/\Below w w w':=by
 obtain⟨HI,HA⟩:=av (Ot w A m a n d h l) (lW zW a)
 generalize jC zW a=r at HI HA
 clear d h
 exact abn
end
section
theorem aK(h:aU c=true):(1<=c.threads/\c.threads<=64)/\(1<=c.nodes/\c.nodes<=64)/\(1<=c.aL/\c.aL<=32)/\(0<=c.aF/\c.aF<=4)/\(1<=c.tags/\c.tags<=4294967295)/\(1<=c.bG/\c.bG<=1048575)/\rA c=true:=by unfold aU at h;simp only[cA,kD,bP]at h;obtain⟨⟨⟨⟨⟨⟨a,b⟩,d⟩,e⟩,f⟩,g⟩,i⟩:=h;exact⟨a,b,d,e,f,g,i⟩
theorem qZ(h:rA c=true)(l:c.kind=1\/c.kind=2):(1<=c.cap/\c.cap<=16)/\c.chans=0/\c.bt=0/\c.start=[]:=by unfold rA at h;rw[au l]at h;simp only[cA,kD,bP,beq_iff_eq]at h;obtain⟨⟨⟨a,b⟩,d⟩,e⟩:=h;exact⟨a,b,d,List.eq_nil_of_length_eq_zero e⟩
theorem qb(h:rA c=true)(l:c.kind=3):(1<=c.chans/\c.chans<=8)/\(0<=c.cap/\c.cap<=8)/\(1<=c.bt/\c.bt<=4095)/\(c.start.length:Int)<=c.chans/\c.start.any (zU c.cap)=false:=by unfold rA at h;rw[ah aa,au l]at h;simp only[cA,kD,bP]at h;obtain⟨⟨⟨⟨a,b⟩,d⟩,e⟩,f⟩:=h;refine⟨a,b,d,e,?_⟩;rw[List.any_eq_false];intro x g;have:=List.all_eq_true.1 f x g;rw[bP]at this;unfold zU kD;rw[eE this];simp
theorem Dr(h:rA c=true):c.kind=1\/c.kind=2\/c.kind=3:=by
 unfold rA at h;split at h
 ·rename_i a;omega
 ·split at h
  ·rename_i a;omega
  ·cases h
end
section
variable(w:World)
theorem TE(hc:rA c=true)(hn:n=c.start.length)(hr:bJ w .i64 A c.start) :
 Calls prog 193 #[.agg #[c.kind,c.threads,c.chans,c.cap,c.nodes,c.aL,c.aF,c.tags,c.bG,c.bt,.slice A n k]] w fun e w'=>e=.returned true/\Below w w w':=by
 rcases Dr hc with hk|hk|hk
 ·obtain⟨h1,h2,h3,h4⟩:=qZ hc (.inl hk);have d1:(c.kind==1)=true:=by simpa using hk
  exact abo
 ·obtain⟨h1,h2,h3,h4⟩:=qZ hc (.inr hk);have d1:(c.kind==1)=false:=by rw[hk];rfl
  have l:(c.kind==2)=true:=by simpa using hk
  exact abo
 ·obtain⟨h1,h2,h3,h4,j⟩:=qb hc hk;have d1:(c.kind==1)=false:=by rw[hk];rfl
  have l:(c.kind==2)=false:=by rw[hk];rfl
  have m:(c.kind==3)=true:=by simpa using hk
  have d2:decide ((n:Int)<=c.chans)=true:=eE aa;obtain⟨b,d,f⟩:=aZ (nO (w.alloc (dV c A n k)) c.chans 1 8 h1) (nO (w.alloc (dV c A n k)) c.cap 0 8 h2) (nO (w.alloc (dV c A n k)) c.bt 1 4095 h3);have o:∀(i:Fn) (first a:Array Value) (w:World),(Instr.makeFunc i first a).run prog w=.ok (.func i first a) w:=fun _ _ _ _=>rfl;have h:=ae (TD (w.alloc (dV c A n k)) (g:=w.heap.size) (cp:=c.cap) ⟨aD,aD⟩ A k c.start n hn (hr.alloc _) aa);rw[j]at h;clear hk h1 h2 h3 h4 j hn hr hc;go_enter func193,ntmps193;go_wp2_with fail;refine b.mono ?_;rintro e w' ⟨rfl,rfl⟩;go_wp2_with fail;refine d.mono ?_;rintro e w' ⟨rfl,rfl⟩;go_wp2_with fail;refine f.mono ?_;rintro e w' ⟨rfl,rfl⟩;go_wp2_with fail;refine h.mono ?_;exact WU
theorem gJ(r:aU c=true)(s:n=c.start.length)(x:bJ w .i64 A c.start) :
 Calls prog 139 #[.agg #[c.kind,c.threads,c.chans,c.cap,c.nodes,c.aL,c.aF,c.tags,c.bG,c.bt,.slice A n k]] w fun e w'=>e=.returned (.int .i64 0)/\Below w w w':=by
 obtain⟨i,j,l,m,o,p,q⟩:=aK r
 obtain⟨a,b,d,f,g,h⟩:=cT (nO (w.alloc (dV c A n k)) c.threads 1 64 i) (nO (w.alloc (dV c A n k)) c.nodes 1 64 j) (nO (w.alloc (dV c A n k)) c.aL 1 32 l) (nO (w.alloc (dV c A n k)) c.aF 0 4 m) (nO (w.alloc (dV c A n k)) c.tags 1 4294967295 o) (nO (w.alloc (dV c A n k)) c.bG 1 1048575 p)
 have t:=ae (TE (w.alloc (dV c A n k)) q s (x.alloc _) (k:=k))
 clear i j l m o p q s x r
 go_enter func139,ntmps139
 go_wp2_with fail
 refine a.mono ?_
 rintro e w' ⟨rfl,rfl⟩
 go_wp2_with fail
 refine b.mono ?_
 rintro e w' ⟨rfl,rfl⟩
 go_wp2_with fail
 refine d.mono ?_
 rintro e w' ⟨rfl,rfl⟩
 go_wp2_with fail
 refine f.mono ?_
 rintro e w' ⟨rfl,rfl⟩
 go_wp2_with fail
 refine g.mono ?_
 rintro e w' ⟨rfl,rfl⟩
 go_wp2_with fail
 refine h.mono ?_
 rintro e w' ⟨rfl,rfl⟩
 go_wp2_with fail
 refine t.mono ?_
 exact WU
end
def dx(w:World)(S:Nat->Prop)(k:IntKind)(A:Option Addr)(d:List Int):Prop:=bJ w k A d/\∀a,A=some a->d≠[]->S a.block
def dG(w:World)(S:Nat->Prop)(f:α->List Value)(A:Option Addr)(l:List α):Prop:=dI w f A l/\∀a,A=some a->l≠[]->S a.block
def Sm(S:Nat->Prop)(w a:World):Prop:=∀b,S b->a.heap[b]?=w.heap[b]?
theorem Sm.cell(h:Sm S w w'){a:Addr}(l:S a.block):w'.cell? a=w.cell? a:=by unfold World.cell?;rw[h _ l]
theorem Rd.same(h:Sm S w w'){l:List Value}(r:Rd w A l)(s:∀a,A=some a->l≠[]->S a.block):Rd w' A l:=by
 intro i u d;obtain⟨a,c,e⟩:=r i u d;have b:l≠[]:=by rintro rfl;simp at d
 refine⟨a,c,?_⟩;have f:(a.add i).block=a.block:=by unfold Addr.add;split<;>rfl
 rw[h.cell (by rw[f];exact s a c b)];exact e
theorem dx.same(h:Sm S w w'){k:IntKind}(l:dx w S k A zs):dx w' S k A zs:=⟨Rd.same h l.1 (fun b c a=>l.2 b c (by rintro rfl;exact a rfl)),l.2⟩
theorem dx.mono(C:∀b,S b->S' b){k:IntKind}(l:dx w S k A zs):dx w S' k A zs:=⟨l.1,fun a c d=>C _ (l.2 a c d)⟩
theorem dG.same(h:Sm S w w')(l:dG w S f A xs):dG w' S f A xs:=⟨Rd.same h l.1 (fun b c a=>l.2 b c (by rintro rfl;exact a rfl)),l.2⟩
theorem dG.mono(C:∀b,S b->S' b)(l:dG w S f A xs):dG w S' f A xs:=⟨l.1,fun a c d=>C _ (l.2 a c d)⟩
def Ty(w:World)(e:TypeId)(b:Nat):Prop:=∃c a,w.heap[b]?=some (.cells c e a)
theorem Ty.lt(h:Ty w e b):b<w.heap.size:=by obtain⟨c,a,h⟩:=h;exact af.FP h
theorem Ty.below(l:Below w w w')(h:Ty w e b):Ty w' e b:=by have c:=h.lt;obtain⟨d,a,h⟩:=h;exact⟨d,a,(l.block b c).trans h⟩
abbrev Row (m:Nat):={r:List Value // r.length=m/\∀u∈r,u.oneCell'=true}
def eA(r:Row m):List Value:=r.val
theorem b9(r:Row m):(eA r).length=m:=r.property.1
theorem fX(r:Row m):∀u∈eA r,u.oneCell'=true:=r.property.2
abbrev sU (α:Type):=World->(Nat->Prop)->List Value->α->Prop
structure Good {α:Type} (P:sU α):Prop where
 mono:∀{w:World} {S S':Nat->Prop} {r:List Value} {x:α},(∀b,S b->S' b)->P w S r x->P w S' r x
 same:∀{w w':World} {S:Nat->Prop} {r:List Value} {x:α},Sm S w w'->P w S r x->P w' S r x
def kF(m:Nat)(P:sU α)(w:World)(S:Nat->Prop)(A:Option Addr)(a:List α):Prop :=∃rows:List (Row m),rows.length=a.length/\dI w eA A rows/\(∀(i:Nat) (r:Row m) (x:α),rows[i]?=some r->a[i]?=some x->P w S r.val x)
def aI(e:TypeId)(m:Nat)(P:sU α)(w:World)(base:Nat)(S:Nat->Prop)(v:Value)(a:List α):Prop :=∃rows:List (Row m),rows.length=a.length/\aH w base e m eA v rows/\(∀(i:Nat) (r:Row m) (x:α),rows[i]?=some r->a[i]?=some x->P w S r.val x)
section
variable{α:Type} {m:Nat} {P:sU α} {w w':World} {S S':Nat->Prop} {A:Option Addr} {xs:List α}
theorem kF.at_(D:0<m)(h:kF m P w S A xs)(C:i<xs.length) :
 ∃a x r,A=some a/\xs[i]?=some x/\P w S r x/\r.length=m/\∀(j:Nat) (u:Value),r[j]?=some u->w.cell? ((a.add (i*m)).add j)=some u:=by
 obtain⟨rows,g,e,f⟩:=h
 obtain⟨a,r,b,c,d⟩:=dI.at_ b9 D e (i:=i) aa
 exact⟨a,xs[i],r.val,b,cY C,f i r _ c (cY C),r.property.1,d⟩
theorem kF.nil(m:Nat)(P:sU α)(w:World)(S:Nat->Prop)(A:Option Addr):kF m P w S A []:=⟨[],rfl,dI.nil _ _ _,fun i r x h=>by simp at h⟩
theorem kF.below(g:Good P)(C:∀b,S b->b<w.heap.size)(l:Below w w w')(h:kF m P w S A xs):kF m P w' S A xs:=by obtain⟨rows,d,e,f⟩:=h;exact⟨rows,d,e.below l,fun i r x a b=>g.same (fun c j=>l.block c (C c j)) (f i r x a b)⟩
theorem kF.mono(g:Good P)(l:∀b,S b->S' b)(h:kF m P w S A xs):kF m P w S' A xs:=by obtain⟨rows,c,d,e⟩:=h;exact⟨rows,c,d,fun i r x a b=>g.mono l (e i r x a b)⟩
variable{e:TypeId} {base:Nat} {v:Value}
theorem aI.nil(e:TypeId)(m:Nat)(P:sU α)(w:World)(base:Nat)(S:Nat->Prop):aI e m P w base S oN []:=⟨[],rfl,aH.nil _ _ _ _ _,fun i r x h=>by simp at h⟩
theorem aI.mono(g:Good P)(l:∀b,S b->S' b)(h:aI e m P w base S v xs):aI e m P w base S' v xs:=by obtain⟨rows,c,d,f⟩:=h;exact⟨rows,c,d,fun i r x a b=>g.mono l (f i r x a b)⟩
theorem aI.ai(g:Good P)(C:∀b,S b->b<w.heap.size)(l:Below w w w')(h:aI e m P w base S v xs):aI e m P w' base S v xs:=by obtain⟨rows,d,f,j⟩:=h;exact⟨rows,d,f.ai l,fun i r x a b=>g.same (fun c k=>l.block c (C c k)) (j i r x a b)⟩
theorem aI.rdX(h:aI e m P w base S v xs):∃A c,v=.slice A xs.length c/\xs.length<=c/\kF m P w S A xs:=by
 obtain⟨rows,b,a,i⟩:=h;obtain⟨A,c,rfl,j⟩:=a.rd;rw[<-b];have f:rows.length<=c:=by
  rcases a.2 with⟨d,l⟩|⟨k,cap',g,d,_,_,f,_⟩
  ·injection d with _ b a;omega
  ·injection d with _ b a;subst a;exact f
 exact⟨A,c,rfl,f,rows,b,j,i⟩
theorem aI.app{h:Value}{rows:List (Row m)}{r:Row m}{x:α}(g:Good P)(d:rows.length=xs.length)(l:∀(i:Nat) (r:Row m) (x:α),rows[i]?=some r->xs[i]?=some x->P w S r.val x)(s:Sm S w w')(q:aH w' base e m eA h (rows++[r]))(B:P w' S r.val x):aI e m P w' base S h (xs++[x]):=by
 refine⟨rows++[r],by simp[d],q,fun i j k a b=>?_⟩
 by_cases f:i<rows.length
 ·rw[List.getElem?_append_left f]at a;rw[List.getElem?_append_left aa]at b;exact g.same s (l i j k a b)
 ·have c:i=rows.length:=by
   have:=dv a;simp at this;omega
  subst c
  rw[List.getElem?_append_right (aS _),Nat.sub_self]at a
  rw[d,List.getElem?_append_right (aS _),Nat.sub_self]at b
  simp at a b
  subst a b
  exact B
end
theorem xo{l:List α}{x:α}(h:l[t]?=some x):(l.set t y)[t]?=some y:=List.getElem?_set_self (List.getElem?_eq_some_iff.1 h).1
theorem bX{l:List α}{r:α}(h:l[t]?=some r):r∈l:=dB h
theorem mem_set{l:List α}{x:α}(h:x∈l.set t y):x=y\/x∈l:=by
 rcases List.mem_or_eq_of_mem_set h with h|h
 ·exact .inr h
 ·exact .inl h
theorem aJ.pP{k:IntKind}{c:Nat}(h:aJ w base e k (.slice A n c) zs):n=zs.length/\bJ w k A zs:=by exact abp
section
variable{α:Type} {w w':World} {base:Nat} {e:TypeId} {m:Nat} {f:α->List Value} {v:Value} {cs:List α}
theorem aH.zX{c:Nat}(h:aH w base e m f (.slice A n c) cs):n=cs.length/\dI w f A cs:=by exact abp
theorem aH.shape(h:aH w base e m f v cs):∃A c,v=.slice A cs.length c:=by obtain⟨a,b,d,_⟩:=h.rd;exact⟨a,b,d⟩
theorem aH.empty(w:World)(e:TypeId)(m:Nat)(f:α->List Value):aH (w.alloc (.cells #[] e)) w e m f (.slice w 0 0) []:=World.ownsRow_lit w #[] 0 (aS _) (aV _) aD
theorem aH.bD{base':Nat}(h:aH w base e m f v cs)(a:base'<=base):aH w base' e m f v cs:=by exact WR
theorem aH.cap{c:Nat}(h:aH w base e m f (.slice A n c) cs):n=cs.length/\n<=c:=by exact WQ
theorem aH.form(h:aH w base e m f v cs)(hne:cs≠[]):∃g c,v=.slice (some ⟨g,0,none⟩) cs.length c/\base<=g/\g<w.heap.size:=by exact aba
theorem aH.cells{c:Nat}(l:∀c,(f c).length=m)(h:aH w base e m f (.slice g n c) cs){x:α}(C:cs[i]?=some x)(r:(f x)[j]?=some u):w.cell? ⟨g,i*m+j,none⟩=some u:=by
 obtain⟨p,k⟩:=h.zX;have d:j<m:=by rw[<-l x];exact(List.getElem?_eq_some_iff.1 r).1
 obtain⟨o,a,b⟩:=k (i*m+j) u (by rw[xK l cs i x j C d];exact r);injection a with a
 subst a;rw[oP,Nat.zero_add]at b;exact b
theorem aH.frozen{c:Nat}(h:aH w base e m f (.slice g n c) cs)(i:Nat):w.frozen? ⟨g,i,none⟩=false:=by have a:=h.cap.1;subst a;exact World.ownsRow.frozenAt h i
theorem Ov(a:∀c,(f c).length=m):∀(cs:List α) (i:Nat) (x y:α) (j:Nat) (u:Value),cs[i]?=some x->j<m->f y=(f x).set j u->(cs.set i y).flatMap f=(cs.flatMap f).set (i*m+j) u:=by
 intro cs;induction cs with
 |nil=>intro i x y j u h;simp at h
 |cons z l e =>
  intro i x y j u h b d;rcases i with _|i
  ·simp at h;subst h;simp only[List.set_cons_zero,List.flatMap_cons,Nat.zero_mul,Nat.zero_add];rw[d,List.set_append_left _ _ (by rw[a];exact b)]
  ·simp only[List.getElem?_cons_succ]at h;simp only[List.set_cons_succ,List.flatMap_cons];rw[e i x y j u h b d,List.set_append_right _ _ (by rw[a,Nat.add_mul];omega),a];rw[show(i+1)*m+j-m=i*m+j by rw[Nat.add_mul];omega]
theorem aH.stored{c:Nat}(a:∀c,(f c).length=m)(h:aH w base e m f (.slice g n c) cs){x y:α}(l:cs[i]?=some x)(d:j<m)(o:f y=(f x).set j u) :
 aH (w.setCell ⟨g,i*m+j,none⟩ u) base e m f (.slice g n c) (cs.set i y):=by
 have b:=h.cap.1
 subst b
 have:=(World.ownsRow.stored h (i*m+j) u).1
 unfold aH
 rw[cq,Ov a cs i x y j u l d o]
 exact this
end
def iI(w:World)(g:Nat)(u0 u1 u2 u3 u4:Value):World:=((((w.setCell ⟨g,0,none⟩ u0).setCell ⟨g,1,none⟩ u1).setCell ⟨g,2,none⟩ u2).setCell ⟨g,3,none⟩ u3).setCell ⟨g,4,none⟩ u4
theorem fL{B:Nat}(h:Below B w w1)(a:B<=b)(u0 u1 u2 u3 u4:Value):Below B w (iI w1 b u0 u1 u2 u3 u4):=((((h.setCell a _).setCell a _).setCell a _).setCell a _).setCell a _
theorem dZ{t:TypeId}{l:List Value}{q:Array Value}(h:w.ownsRow base e m v n l)(o:af w g t q)(d:e≠t)(u0 u1 u2 u3 u4:Value) :
 (iI w g u0 u1 u2 u3 u4).ownsRow base e m v n l:=by
 have a:∀b,v.ownBlock=some b->b≠g:=fun b f c=>aY h o d (by rw[f,c])
 exact dw (dw (dw (dw (dw h (p:=⟨g,0,none⟩) a _) (p:=⟨g,1,none⟩) a _) (p:=⟨g,2,none⟩) a _) (p:=⟨g,3,none⟩) a _) (p:=⟨g,4,none⟩) a _
theorem ja{t:TypeId}{a d l:Value}(h:af w g t #[a0,a1,a,d,l])(u0 u1 u2 u3 u4:Value):af (iI w g u0 u1 u2 u3 u4) g t #[u0,u1,u2,u3,u4]:=((((h.bj 0 u0).bj 1 u1).bj 2 u2).bj 3 u3).bj 4 u4
def jD(f:α->List Value)(h1:∀x,(f x).length=m)(h2:∀x,∀u∈f x,u.oneCell'=true)(x:α):Row m:=⟨f x,h1 x,h2 x⟩
theorem AA(f:α->List Value)(d:∀x,(f x).length=m)(h:∀x,∀u∈f x,u.oneCell'=true)(a:List α):(a.map (jD f d h)).flatMap eA=a.flatMap f:=by rw[List.flatMap_map];rfl
theorem dI.rows{h1:∀x,(f x).length=m}{h2:∀x,∀u∈f x,u.oneCell'=true}:dI w eA A (xs.map (jD f h1 h2))↔dI w f A xs:=by unfold dI;rw[AA]
theorem aH.rows{h1:∀x,(f x).length=m}{h2:∀x,∀u∈f x,u.oneCell'=true}:aH w base e m eA v (xs.map (jD f h1 h2))↔aH w base e m f v xs:=by unfold aH;rw[AA,cW]
def fD(E:TypeId)(w:World)(rows:List (Row m))(n:Nat)(e:Ending)(a:World):Prop :=∃B d,e=.returned (.slice B n d)/\n<=d/\aH a w E m eA (.slice B n d) rows/\Below w w a
def tB(E:TypeId)(m:Nat)(f:α->List Value)(w:World)(h:List α)(n:Nat)(e:Ending)(a:World):Prop :=∃B d,e=.returned (.slice B n d)/\n<=d/\aH a w E m f (.slice B n d) h/\Below w w a
def Jd(E:TypeId)(k:IntKind)(w:World)(h:List Int)(n:Nat)(e:Ending)(a:World):Prop :=∃B d,e=.returned (.slice B n d)/\n<=d/\aJ a w E k (.slice B n d) h/\Below w w a
def TF(E:TypeId)(m:Nat)(Q:sU α)(w:World)(S:Nat->Prop)(h:List α)(n:Nat)(e:Ending)(a:World):Prop :=∃B d,e=.returned (.slice B n d)/\n<=d/\aI E m Q a w S (.slice B n d) h/\Below w w a
theorem fD.toF{E:TypeId}{l:∀x,(f x).length=m}{o:∀x,∀u∈f x,u.oneCell'=true}{e:Ending}(h:fD E w (xs.map (jD f l o)) n e w'):tB E m f w xs n e w':=by obtain⟨B,d,a,b,c,k⟩:=h;exact⟨B,d,a,b,aH.rows.1 c,k⟩
section
variable(w:World) (A:Option Addr) (c:Nat)
theorem FY:(prog.info? 200).map (fun i=>(i.zero,i.size,i.bytes))=some (some (.agg #[oZ,oZ]),2,16):=by kernel_rfl
theorem KG:(prog.info? 203).map (fun i=>(i.zero,i.size,i.bytes))=some (some (.agg #[oZ,oZ,oZ]),3,24):=by kernel_rfl
theorem FZ:(prog.info? 110).map (fun i=>(i.zero,i.size,i.bytes))=some (some (.agg #[oZ,oZ,oZ]),3,24):=by kernel_rfl
theorem uF:(prog.info? 48).map (fun i=>(i.zero,i.size,i.bytes))=some (some (.agg #[oZ,oZ,oZ,oZ]),4,32):=by kernel_rfl
theorem sf:(prog.info? 83).map (fun i=>(i.zero,i.size,i.bytes))=some (some (.agg #[oZ,oZ,false,false,oN]),5,48):=by kernel_rfl
theorem sg:(prog.info? 79).map (fun i=>(i.zero,i.size,i.bytes))=some (some (.agg #[false,oZ,oZ,oN]),4,48):=by kernel_rfl
theorem mH:(prog.info? 66).map (fun i=>(i.zero,i.size,i.bytes))=some (some (.agg #[oZ,oZ,oZ,oZ,oZ,oZ,false,oN]),8,80):=by kernel_rfl
theorem xT:(prog.info? 96).map (fun i=>(i.zero,i.size,i.bytes))=some (some (.agg #[oZ,oZ,oN]),3,40):=by kernel_rfl
theorem oV:(prog.info? 93).map (fun i=>(i.zero,i.size,i.bytes))=some (some (.agg #[oZ,oZ,oZ,oZ,oZ,oZ,oZ,false,oN,oZ,oZ,oZ,oZ]),13,120):=by kernel_rfl
def TG(f:FuncId)(E:TypeId)(m:Nat)(w:World)(A:Option Addr)(c:Nat):Prop:=∀(xs:List (Row m)) {n:Nat},n=xs.length->n<=1000000->dI w eA A xs->Calls prog f #[.slice A n c] w (fD E w xs n)
theorem oW:TG 137 200 2 w A c /\
 TG 138 203 3 w A c /\
 TG 96 110 3 w A c /\
 TG 267 48 4 w A c /\
 TG 271 83 5 w A c /\
 TG 281 79 4 w A c /\
 TG 66 66 8 w A c /\
 TG 39 96 3 w A c /\
 TG 59 93 13 w A c:=by
 refine⟨?g0,?g1,?g2,?g3,?g4,?g5,?g6,?g7,?g8⟩
 all_goals
  intro e n t C u;have b:=ae t;clear t;have f:=ae u;clear u
 case' g0=>have hnil:=fun a=>Lib.run_eql_slice_nil (P:=prog) a 36 200 A n c 0 0 underlying36;go_enter func137,ntmps137
 case' g1=>have hnil:=fun a=>Lib.run_eql_slice_nil (P:=prog) a 37 203 A n c 0 0 underlying37;go_enter func138,ntmps138
 case' g2=>have hnil:=fun a=>Lib.run_eql_slice_nil (P:=prog) a 40 110 A n c 0 0 underlying40;go_enter func96,ntmps96
 case' g3=>have hnil:=fun a=>Lib.run_eql_slice_nil (P:=prog) a 69 48 A n c 0 0 underlying69;go_enter func267,ntmps267
 case' g4=>have hnil:=fun a=>Lib.run_eql_slice_nil (P:=prog) a 67 83 A n c 0 0 underlying67;go_enter func271,ntmps271
 case' g5=>have hnil:=fun a=>Lib.run_eql_slice_nil (P:=prog) a 68 79 A n c 0 0 underlying68;go_enter func281,ntmps281
 case' g6=>have hnil:=fun a=>Lib.run_eql_slice_nil (P:=prog) a 45 66 A n c 0 0 underlying45;go_enter func66,ntmps66
 case' g7=>have hnil:=fun a=>Lib.run_eql_slice_nil (P:=prog) a 31 96 A n c 0 0 underlying31;go_enter func39,ntmps39
 case' g8=>have hnil:=fun a=>Lib.run_eql_slice_nil (P:=prog) a 76 93 A n c 0 0 underlying76;go_enter func59,ntmps59
 all_goals
  rcases A with _|g
  ·have p:e=[]:=by
    rcases e with _|⟨z,l⟩
    ·rfl
    ·obtain⟨_,_,h,_⟩:=dI.at_ (i:=0) b9 ag f aD;cases h
   have x:n=0:=by rw[b.Y,p];rfl
   subst x
   have v:=ae p;clear p
   go_wp2
   go_ret
   refine⟨none,0,rfl,aS _,?_,aj _⟩
   rw[v.Y];exact aH.nil _ _ _ _ _
  ·go_wp2_with(at_builtin;first
    |refine cG _ rfl _ _ 36 rfl w 200 2 16 (.agg #[oZ,oZ]) eA b9 fX underlying36 FY rfl ag _ [] rfl (aH.empty _ _ _ _) (some g) n c e rfl b.symm (dI.alloc f _) ?c4 ?c5 ?c6 ?_
    |refine cG _ rfl _ _ 37 rfl w 203 3 24 (.agg #[oZ,oZ,oZ]) eA b9 fX underlying37 KG rfl ag _ [] rfl (aH.empty _ _ _ _) (some g) n c e rfl b.symm (dI.alloc f _) ?c4 ?c5 ?c6 ?_
    |refine cG _ rfl _ _ 40 rfl w 110 3 24 (.agg #[oZ,oZ,oZ]) eA b9 fX underlying40 FZ rfl ag _ [] rfl (aH.empty _ _ _ _) (some g) n c e rfl b.symm (dI.alloc f _) ?c4 ?c5 ?c6 ?_
    |refine cG _ rfl _ _ 69 rfl w 48 4 32 (.agg #[oZ,oZ,oZ,oZ]) eA b9 fX underlying69 uF rfl ag _ [] rfl (aH.empty _ _ _ _) (some g) n c e rfl b.symm (dI.alloc f _) ?c4 ?c5 ?c6 ?_
    |refine cG _ rfl _ _ 67 rfl w 83 5 48 (.agg #[oZ,oZ,false,false,oN]) eA b9 fX underlying67 sf rfl ag _ [] rfl (aH.empty _ _ _ _) (some g) n c e rfl b.symm (dI.alloc f _) ?c4 ?c5 ?c6 ?_
    |refine cG _ rfl _ _ 68 rfl w 79 4 48 (.agg #[false,oZ,oZ,oN]) eA b9 fX underlying68 sg rfl ag _ [] rfl (aH.empty _ _ _ _) (some g) n c e rfl b.symm (dI.alloc f _) ?c4 ?c5 ?c6 ?_
    |refine cG _ rfl _ _ 45 rfl w 66 8 80 (.agg #[oZ,oZ,oZ,oZ,oZ,oZ,false,oN]) eA b9 fX underlying45 mH rfl ag _ [] rfl (aH.empty _ _ _ _) (some g) n c e rfl b.symm (dI.alloc f _) ?c4 ?c5 ?c6 ?_
    |refine cG _ rfl _ _ 31 rfl w 96 3 40 (.agg #[oZ,oZ,oN]) eA b9 fX underlying31 xT rfl ag _ [] rfl (aH.empty _ _ _ _) (some g) n c e rfl b.symm (dI.alloc f _) ?c4 ?c5 ?c6 ?_
    |refine cG _ rfl _ _ 76 rfl w 93 13 120 (.agg #[oZ,oZ,oZ,oZ,oZ,oZ,oZ,false,oN,oZ,oZ,oZ,oZ]) eA b9 fX underlying76 oV rfl ag _ [] rfl (aH.empty _ _ _ _) (some g) n c e rfl b.symm (dI.alloc f _) ?c4 ?c5 ?c6 ?_)
   case c4=>have:=b.Y;simp;omega
   case c5=>have:=b.Y;simp;omega
   case c6=>simp
   intro D E hown' q _
   have s:=aH.bh (aH.empty _ _ 1 (eA (m:=1))) (ak (aj _) _) q aD (aS _)
   obtain⟨r,y⟩:=av hown' s
   clear s hown' q
   go_wp2
   go_ret
   obtain⟨B,d,o,_⟩:=r.rd
   have k:=r.Y
   have j:e.length=n:=b.symm
   rw[j]at o
   rw[o]at k
   exact⟨B,d,congrArg Ending.returned o,k.cap.2,k,y⟩
theorem F0(a:List (Row 2))(h:n=a.length)(d:n<=1000000)(l:dI w eA A a) :
 Calls prog 137 #[.slice A n c] w (fD 200 w a n):=(oW w A c).1 a h d l
theorem KH(a:List (Row 3))(h:n=a.length)(d:n<=1000000)(l:dI w eA A a) :
 Calls prog 138 #[.slice A n c] w (fD 203 w a n):=(oW w A c).2.1 a h d l
theorem F2(a:List (Row 3))(h:n=a.length)(d:n<=1000000)(l:dI w eA A a) :
 Calls prog 96 #[.slice A n c] w (fD 110 w a n):=(oW w A c).2.2.1 a h d l
theorem KJ(a:List (Row 4))(h:n=a.length)(d:n<=1000000)(l:dI w eA A a) :
 Calls prog 267 #[.slice A n c] w (fD 48 w a n):=(oW w A c).2.2.2.1 a h d l
theorem F3(a:List (Row 5))(h:n=a.length)(d:n<=1000000)(l:dI w eA A a) :
 Calls prog 271 #[.slice A n c] w (fD 83 w a n):=(oW w A c).2.2.2.2.1 a h d l
theorem F4(a:List (Row 4))(h:n=a.length)(d:n<=1000000)(l:dI w eA A a) :
 Calls prog 281 #[.slice A n c] w (fD 79 w a n):=(oW w A c).2.2.2.2.2.1 a h d l
theorem xU(a:List (Row 8))(h:n=a.length)(d:n<=1000000)(l:dI w eA A a) :
 Calls prog 66 #[.slice A n c] w (fD 66 w a n):=(oW w A c).2.2.2.2.2.2.1 a h d l
theorem F5(a:List (Row 3))(h:n=a.length)(d:n<=1000000)(l:dI w eA A a) :
 Calls prog 39 #[.slice A n c] w (fD 96 w a n):=(oW w A c).2.2.2.2.2.2.2.1 a h d l
theorem F8(a:List (Row 13))(h:n=a.length)(d:n<=1000000)(l:dI w eA A a) :
 Calls prog 59 #[.slice A n c] w (fD 93 w a n):=(oW w A c).2.2.2.2.2.2.2.2 a h d l
theorem fS:(prog.info? 3).map (fun i=>(i.zero,i.size,i.bytes))=some (some (.int .i64 0),1,8):=by kernel_rfl
theorem iE(xs:List Int)(h:n=xs.length)(o:n<=2000000)(l:bJ w .i64 A xs) :
 Calls prog 62 #[.slice A n c] w (Jd 3 .i64 w xs n):=by
 have HN:=ae h;clear h
 have b:=ae l;clear l
 have hnil:=fun i=>Lib.run_eql_slice_nil (P:=prog) i 22 3 A n c 0 0 underlying22
 rcases A with _|g
 ·have a:=b.oQ;have f:n=0:=by rw[HN.Y,a];rfl
  subst f;have e:=ae a;clear a;go_enter func62,ntmps62;go_wp2;go_ret;refine⟨none,0,rfl,aS _,?_,aj _⟩;rw[e.Y];exact aJ.nil _ _ _ _
 ·have h0:aJ (w.alloc (.cells #[] 3)) w 3 .i64 (.slice w 0 0) []:=aJ.empty _ _ _;go_enter func62,ntmps62;go_wp2_with(at_builtin;refine cH _ rfl _ _ 22 rfl w 3 .i64 underlying22 fS _ [] rfl h0 (some g) n c xs rfl HN.symm (bJ.alloc b _) ?c4 ?c6 ?_)
  case c4=>have:=HN.Y;simp;omega
  case c6=>simp
  exact abq
theorem KL:(prog.info? 44).map (fun i=>(i.zero,i.size,i.bytes))=some (some (.int .u64 0),1,8):=by kernel_rfl
theorem mj(xs:List Int)(l:n=xs.length)(p:n<=2000000)(o:bJ w .u64 A xs) :
 Calls prog 68 #[.slice A n c] w (Jd 44 .u64 w xs n):=by
 have HN:=ae l;clear l
 have b:=ae o;clear o
 have hnil:=fun h=>Lib.run_eql_slice_nil (P:=prog) h 43 44 A n c 0 0 underlying43
 rcases A with _|g
 ·have a:=b.oQ;have f:n=0:=by rw[HN.Y,a];rfl
  subst f;have e:=ae a;clear a;go_enter func68,ntmps68;go_wp2;go_ret;refine⟨none,0,rfl,aS _,?_,aj _⟩;rw[e.Y];exact aJ.nil _ _ _ _
 ·have h0:aJ (w.alloc (.cells #[] 44)) w 44 .u64 (.slice w 0 0) []:=aJ.empty _ _ _;go_enter func68,ntmps68;go_wp2_with(at_builtin;refine cH _ rfl _ _ 43 rfl w 44 .u64 underlying43 KL _ [] rfl h0 (some g) n c xs rfl HN.symm (bJ.alloc b _) ?c4 ?c6 ?_)
  case c4=>have:=HN.Y;simp;omega
  case c6=>simp
  exact abq
end
theorem kF.F9{Q:sU α}(h:kF m Q w S A xs):∃rows:List (Row m),rows.length=xs.length/\dI w eA A rows/\(∀(i:Nat) (r:Row m) (x:α),rows[i]?=some r->xs[i]?=some x->Q w S r.val x):=h
theorem fD.toX{E:TypeId}{Q:sU α}(g:Good Q){rows:List (Row m)}(s:∀b,S b->b<w.heap.size)(l:rows.length=xs.length)(o:∀(i:Nat) (r:Row m) (x:α),rows[i]?=some r->xs[i]?=some x->Q w S r.val x){e:Ending}(h:fD E w rows n e w'):TF E m Q w S xs n e w':=by obtain⟨B,d,a,b,c,k⟩:=h;exact⟨B,d,a,b,⟨rows,l,c,fun i r x p q=>g.same (fun b f=>k.block b (s b f)) (o i r x p q)⟩,k⟩
section
variable(w:World) (A B:Option Addr) (c d:Nat)
theorem Ow(l o:List Int)(O:l.length<=17592186044416)(q:o.length<=17592186044416)(H:bJ w .u64 A l)(I:bJ w .u64 B o) :
 Calls prog 206 #[.slice A l.length c,.slice B o.length d] w fun e w'=>e=.returned (l==o)/\w=w':=by
 obtain⟨n,r⟩:=aG l.length
 obtain⟨m,p⟩:=aG o.length
 rw[<-r]at O ⊢
 rw[<-p]at q ⊢
 by_cases s:n=m
 ·subst s;have v:=ae r;clear r;have u:=ae p;clear p;have J:=ae H;clear H;have K:=ae I;clear I;go_enter func206,ntmps206;go_wp2;go_loop[14] (fun i=>∃k:Nat,k<=n/\i=k/\Hid (∀j x y,j<k->l[j]?=some x->o[j]?=some y->x=y)) (fun i=>n-(intOf i).toNat);case atStart=>exact⟨0,aV _,rfl,fun j x y N=>by omega⟩
  case round =>
   obtain⟨k,W,rfl,z⟩:=hrel;by_cases a:k<n
   ·obtain⟨S,x,L,(C:Hid _),U⟩:=bJ.at_ J (by rw[<-v.Y];exact a);obtain⟨T,y,M,(D:Hid _),V⟩:=bJ.at_ K (by rw[<-u.Y];exact a);subst L;subst M;by_cases b:x=y
    ·subst b;go_wp2;go_round;case rel =>
      refine⟨k+1,aa,by go_num,fun j Q R N t E=>?_⟩;by_cases g:j=k
      ·subst g;have F:=C.symm.trans t;have G:=D.symm.trans E;simp only[Option.some.injEq]at F G;rw[<-F, <-G]
      ·exact z.Y j Q R aa t E
     case measure=>simp[intOf];omega
    ·have X:(y !=x)=true:=by simpa using fun h=>b h.symm
     have f:=ae b;clear b;go_wp2;go_ret;refine⟨cr ?_,rfl⟩;symm;rw[di];rintro rfl;have:=C.symm.trans D;simp only[Option.some.injEq]at this;exact f.Y this
   ·go_wp2;go_ret;refine⟨cr ?_,rfl⟩;symm;rw[beq_iff_eq];exact Dk v u a z
 ·have P:((n:Int) !=(m:Int))=true:=by simp;omega
  go_enter func206,ntmps206;go_wp2;go_ret;refine⟨cr ?_,rfl⟩;symm;rw[di];rintro rfl;omega
end
def nj(x:Int×Int×Int):Int:=x.1+x.2.1*256+x.2.2*4294967296
def pF(h a l:Int)(d:Bool)(n:Int):Int:=h+n*256+(if d=true then 4096 else 0)+a*65536+l*4294967296
def lu(h d o:Int)(q:Bool)(a:List (Int×Int×Int))(l:Int):List Int:=if bk h d o a=true/\ic l 4294967296=true then pF h d o q a.length::(a.map nj++List.replicate (3-a.length) 0++[l])else[]
theorem TI(d h v:Int)(a:1<=d)(l:d<=2)(o:0<=h)(q:h<65536)(r:0<=v)(s:v<4294967296) :
 bits BinOp.or IntKind.u64 (bits BinOp.or IntKind.u64 d (h*256)) (v*4294967296)=nj (d,h,v):=by
 rw[mF 8 d (h*256) aa aa aa aa aa aa,
  mF 32 _ (v*4294967296) aa aa aa aa aa aa]
 rfl
theorem Je(d a h n:Int)(l:1<=d)(o:d<=9)(q:0<=a)(r:a<65536)(s:0<=h)(x:h<4294967296)(B:0<=n)(C:n<=3) :
 bits BinOp.or IntKind.u64 (bits BinOp.or IntKind.u64 (bits BinOp.or IntKind.u64 d (n*256)) (a*65536)) (h*4294967296)=pF d a h false n:=by
 rw[mF 8 d (n*256) aa aa aa aa aa aa,
  mF 16 _ (a*65536) aa aa aa aa aa aa,
  mF 32 _ (h*4294967296) aa aa aa aa aa aa]
 simp[pF]
theorem TJ(a d h n:Int)(s:1<=a)(B:a<=9)(C:0<=d)(D:d<65536)(E:0<=h)(F:h<4294967296)(G:0<=n)(H:n<=3) :
 bits BinOp.or IntKind.u64 (pF a d h false n) 4096=pF a d h true n:=by
 have e:pF a d h false n=(a+n*256)+(d+h*65536)*65536:=by simp[pF];omega
 have m:bits BinOp.or IntKind.u64 (a+n*256) ((d+h*65536)*65536)=pF a d h false n:=by rw[mF 16 _ _ aa aa aa aa aa aa,e]
 have o:bits BinOp.or IntKind.u64 (a+n*256) 4096=a+n*256+4096:=mF 12 _ _ aa aa aa aa aa aa
 have p:bits BinOp.or IntKind.u64 (a+n*256+4096) ((d+h*65536)*65536)=pF a d h true n:=by rw[mF 16 _ _ aa aa aa aa aa aa];simp[pF];omega
 have i:bits BinOp.or IntKind.u64 (bits BinOp.or IntKind.u64 (a+n*256) ((d+h*65536)*65536)) 4096=bits BinOp.or IntKind.u64 (bits BinOp.or IntKind.u64 (a+n*256) 4096) ((d+h*65536)*65536):=by
  obtain⟨x,k⟩:=Int.eq_ofNat_of_zero_le (show 0<=a+n*256 by omega);obtain⟨y,l⟩:=Int.eq_ofNat_of_zero_le (show 0<=(d+h*65536)*65536 by omega);have b:x<2 ^ 64:=aa;have g:y<2 ^ 64:=aa;rw[k,l];have q:=u64_or_nat x y aa aa;have c:=u64_or_nat x 4096 aa aa;have t:x ||| y<2 ^ 64:=Nat.or_lt_two_pow b g
  have u:x ||| 4096<2 ^ 64:=Nat.or_lt_two_pow b aa
  have f:=u64_or_nat (x ||| y) 4096 aa aa;have r:=u64_or_nat (x ||| 4096) y aa aa;have j:((4096:Nat):Int)=4096:=rfl;rw[j]at c f;rw[q,c,f,r,Nat.or_assoc,Nat.or_assoc,Nat.or_comm y 4096]
 rw[<-m,i,o,p]
def lenOf:Value->Nat|.slice _ n _=>n|_=>0
theorem aJ.len{k:IntKind}{c:Nat}(h:aJ w base e k (.slice A n c) zs):n=zs.length:=by obtain⟨b,d,a,_⟩:=h.rd;injection a
def uG(a:List Int)(w:World)(e:Ending)(l:World):Prop:=∃B d,e=.returned (.slice B a.length d)/\aJ l w 44 .u64 (.slice B a.length d) a/\Below w w l
theorem aJ.TK{a:World}(h:aJ w base 44 .u64 v zs)(l:Below a a w)(o:a.heap.size<=base):uG zs a (.returned v) w:=by obtain⟨B,d,rfl⟩:=h.shape;exact⟨B,d,rfl,h.bD o,l⟩
theorem uG.J{e:Ending}(h:uG zs w e w'):Tq .u64 zs w e w':=by obtain⟨B,d,rfl,b,a⟩:=h;exact b.adP a
section
variable(w:World) (ki ar va:Int) (df:Bool) (A:Option Addr) (c:Nat) (cs:List (Int×Int×Int)) (ph:Int)
theorem xV(hl:cs.length<=9223372036854775807)(hr:dI w bC A cs) :
 Calls prog 172 #[.agg #[ki,ar,va,df,.slice A cs.length c],ph] w (uG (lu ki ar va df cs ph) w):=by
 have B:=ae hr;clear hr
 have G:=ae hl;clear hl
 rcases f:bk ki ar va cs with _|_
 ·have g:lu ki ar va df cs ph=[]:=by unfold lu;rw[ah];simp[f]
  obtain⟨t,HQ⟩:=av f g;clear f g;go_enter func172,ntmps172;go_wp2_with fail;go_fit (mG _ ki ar va df A c cs G (B.alloc _));rw[t.Y];rintro e w1 ⟨rfl,hb1⟩;exact WV
 rcases h:ic ph 4294967296 with _|_
 ·have g:lu ki ar va df cs ph=[]:=by unfold lu;rw[ah];simp[h]
  obtain⟨t,F,HQ⟩:=aZ f h g;clear f h g;go_enter func172,ntmps172;go_wp2_with fail;refine(mG _ ki ar va df A c cs G (B.alloc _)).mono ?_;rw[t.Y];rintro e w1 ⟨rfl,hb1⟩;have hc:∀i,w1.cell? ⟨w,i,none⟩=_:=fun i=>hb1.cell (p:=⟨w,i,none⟩) aD;go_wp2_with fail;refine(uD _ _).mono ?_;rw[F.Y];rintro e w' ⟨rfl,rfl⟩;exact WV
 have g:lu ki ar va df cs ph=pF ki ar va df cs.length::(cs.map nj++List.replicate (3-cs.length) 0++[ph]):=by unfold lu;rw[au ⟨f,h⟩]
 have Z:=f
 simp only[bk,ic,cA,bP]at Z
 obtain⟨⟨⟨⟨⟨O,P⟩,Q,R⟩,S,T⟩,k7⟩,(HM:Hid _)⟩:=Z
 have hp:=h
 simp only[ic,bP]at hp
 obtain⟨p1,p2⟩:=hp
 obtain⟨t,F,HQ⟩:=aZ f h g;clear f h g
 obtain⟨n,x⟩:=aG cs.length
 have W:=ae (mG (w.alloc (.cells #[ki,ar,va,df,.slice A cs.length c] 42)) ki ar va df A c cs G (B.alloc _))
 rw[t.Y, <-x]at W
 rw[<-x]at k7
 rw[<-x]
 have H:=ae x;clear x
 cases df
 all_goals
  go_enter func172,ntmps172;go_wp2_with fail;refine W.mono ?_;rintro e w1 ⟨rfl,hb1⟩;have hc:∀i,w1.cell? ⟨w,i,none⟩=_:=fun i=>hb1.cell (p:=⟨w,i,none⟩) aD;have TL:=ai (ak (aj _) _) hb1;have hz:w.heap.size<w1.heap.size:=by have:=hb1.size;simp at this;omega
  go_wp2_with fail;go_fit (uD _ _);rw[F.Y];rintro e w' ⟨rfl,rfl⟩;go_wp2;go_loopw[6,45] (fun o i wr=>∃(k:Nat) (L:List Int),k<=n/\i=k/\Hid (aJ wr w1 44 .u64 o L)/\L.length=k+1/\Hid (L=pF ki ar va _ n::(cs.take k).map nj)/\Below w w wr/\w1.heap.size<=wr.heap.size) (fun _ i _=>n-(intOf i).toNat);case atStart =>
   refine⟨0,_,aV _,rfl,aJ.lit w1 _ _ [_] aD,rfl,?_,ak TL _,aD⟩;first
    |exact(show[_]=_ by rw[Je ki ar va n O P Q R S T aa aa,TJ ki ar va n O P Q R S T aa aa];rfl)
    |exact(show[_]=_ by rw[Je ki ar va n O P Q R S T aa aa];rfl)
  case round =>
   obtain⟨k,L,hk,rfl,I,lK,E,C,oX⟩:=hrel;have bz:w.heap.size<wr.heap.size:=aa;by_cases K:k<n
   ·obtain⟨ad,d,Y,v,hA,N,aq,a6,a7⟩:=Jc (B.below C) (i:=k) (by rw[<-H.Y];exact K);subst hA;have hm:=List.all_eq_true.1 HM _ (dB N);simp only[j7,FW,ic,cA,Bool.or_eq_true,beq_iff_eq,bP]at hm;obtain⟨⟨m1,m2,m3⟩,m4,m5⟩:=hm;have m6:1<=d:=aa;have m7:d<=2:=aa;have HX:=ae N;clear N m1;have bg:=C.size;go_wp2_with(at_builtin;refine cH _ rfl _ _ 43 rfl w1 44 .u64 underlying43 iy _ L rfl ((I.alloc _).alloc _) (some ⟨wr.heap.size+1,0,none⟩) 1 1 [nj (d,Y,v)] rfl rfl ?c3 ?c4 ?c5 ?_)
    case c3=>rw[<-TI d Y v m6 m7 m2 m3 m4 m5];exact bJ.WO _ _ _ _ aD
    case c4=>simp;omega
    case c5=>simp;omega
    intro v' D hown' b _;have a:=((I.alloc _).alloc _).bh (ak (ak C _) _) b (by simp;omega) aa;have r:=b.size;have q:w1.heap.size<=D.heap.size:=by simp at r;omega
    have s:=ae hown';clear hown' b r;go_wp2;go_roundw;case rel=>exact⟨k+1,_,aa,by go_num,s,by simp;omega,by rw[Hid,E.Y,gy HX.Y];simp,a,q⟩
    case measure=>simp[intOf];omega
   ·have rE:k=n:=aa;subst rE;have V:=tv H (aS _);have l:=E.Y;rw[V]at l;have C7:=ae l;clear l V E;go_wp2;go_loopw[6] (fun o wr=>∃(j:Nat) (M:List Int),Hid (aJ wr w1 44 .u64 o M)/\M.length=k+1+j/\k+j<=3/\Hid (M=L++List.replicate j 0)/\Below w w wr/\w1.heap.size<=wr.heap.size) (fun o _=>4-lenOf o);case atStart=>exact⟨0,L,I,aa,aa,by simp[Hid],C,oX⟩
    case round =>
     obtain⟨j,M,u,SF,hj,X,m,bo⟩:=hrel;obtain⟨A3,c3,y⟩:=u.shape;rw[SF]at y;subst y;have bR:w.heap.size<wr.heap.size:=aa;have Ox:=m.size;by_cases a8:k+j<3
     ·go_wp2_with(at_builtin;refine cH _ rfl _ _ 43 rfl w1 44 .u64 underlying43 iy _ M rfl (u.alloc _) wr 1 1 [0] rfl rfl (bJ.one _ _ _ _) ?c6 ?c7 ?_)
      case c6=>simp;omega
      case c7=>simp;omega
      intro v' D hown' b _;have a:=(u.alloc _).bh (ak m _) b (by simp;omega) aa;have r:=b.size;have q:w1.heap.size<=D.heap.size:=by simp at r;omega
      have U:(M++[0]).length=k+1+(j+1):=by simp;omega
      obtain⟨A4,c4,z⟩:=hown'.shape;have s:=ae hown';clear hown' b r;go_wp2;go_roundw;case rel=>exact⟨j+1,_,s,U,aa,by rw[Hid,X.Y,List.append_assoc,List.replicate_succ'],a,q⟩
      case measure=>rw[U]at z;simp[z,lenOf];omega
     ·have J:j=3-k:=aa;subst J;go_wp2_with(at_builtin;refine cH _ rfl _ _ 43 rfl w1 44 .u64 underlying43 iy _ M rfl (u.alloc _) wr 1 1 [ph] rfl rfl (bJ.one _ _ _ _) ?c8 ?c9 ?_)
      case c8=>simp;omega
      case c9=>simp;omega
      intro v' D hown' b _;have a:=(u.alloc _).bh (ak m _) b (by simp;omega) aa;have s:=ae hown';clear hown' b;go_wp2;go_ret;have n9:=s.TK a aa;have nX:=HQ.Y;rw[<-H.Y]at nX;rw[X.Y,C7.Y]at n9;rw[nX];simpa using n9
end
section
variable(w:World)
theorem qc(g:Nat)(a:Addr)(n c:Nat)(d:w.cell? ⟨g,0,none⟩=some (.slice (some a) n c)) :
 Calls prog 72 #[.pointer g] w fun e w'=>e=.returned true/\w=w':=by
 have f:=fun b=>run_neq_slice_nil_any (P:=prog) b 43 44 (some a) n c 0 0 underlying43
 exact adR
theorem TM(n:Int)(l:1<=n)(o:n<=1048576) :
 Calls prog 100 #[n] w fun e w'=>(∃g,e=.returned (.pointer (some ⟨g,0,none⟩))/\I8 w' w g (List.replicate n.toNat 0) [] [] false)/\Below w w w':=by
 obtain⟨m,rfl⟩:=Int.eq_ofNat_of_zero_le (show 0<=n by omega)
 have p:m<=1048576:=aa
 have f:decide ((m:Int)<1)=false:=bU aa
 have h:decide (1048576<(m:Int))=false:=bU aa
 have i:(m==0)=false:=by rw[di];omega
 have j:decide (1048576<m)=false:=bU aa
 go_enter func100,ntmps100
 go_wp2_with(at_make;refine BF _ rfl _ _ 43 rfl w 44 .u64 underlying43 iy _ _ _ _ m rfl rfl rfl rfl aa (aS _) ?_)
 intro k c b
 obtain⟨d,a⟩:=av c b
 clear c b
 go_wp2
 go_ret
 refine⟨⟨k,rfl,.slice w m m,oN,oN,?_⟩,ak a _⟩
 refine⟨af.new _ _ _,?_,aH.nil _ _ _ _ _,aJ.nil _ _ _ _,a.size⟩
 rw[gu]
 exact d.alloc _
theorem Oy{C:List Int}:(C++List.replicate j (0:Int))++[0]=C++List.replicate (j+1) 0:=by rw[List.append_assoc, <-List.replicate_succ']
theorem KM(base g:Nat)(F E l:Value)(L:List Int)(G:List Acc)(C:List Int)(kp:Bool)(t:Int)(h:eu w base g F E l L G C kp)(hC:C.length<=64) :
 Calls prog 239 #[.pointer g,t] w fun e w'=>e=.returned (.tuple #[])/\(∃uA,eu w' base g F E uA L G (js C t) kp/\∀b,uA.ownBlock=some b->l.ownBlock=some b\/w.heap.size<=b)/\Rest w w' g F E l/\Below base w w':=by
 by_cases ui:t<0
 ·go_enter func239,ntmps239;go_wp2;refine bodyPost_ret (v:=.tuple #[]) (by simp[results,results239,go_sem]) rfl ⟨rfl,⟨l,?_,fun b a=>.inl a⟩,Rest.refl _ _ _ _ _,Below.refl _ _⟩;rw[show js C t=C by unfold js;rw[au (.inl ui)]];exact h
 by_cases vK:64<=t
 ·go_enter func239,ntmps239;go_wp2;refine bodyPost_ret (v:=.tuple #[]) (by simp[results,results239,go_sem]) rfl ⟨rfl,⟨l,?_,fun b a=>.inl a⟩,Rest.refl _ _ _ _ _,Below.refl _ _⟩;rw[show js C t=C by unfold js;rw[au (.inr vK)]];exact h
 obtain⟨k,rfl⟩:=Int.eq_ofNat_of_zero_le (show 0<=t by omega)
 have hk:k<64:=aa
 have lR:decide ((k:Int)<0)=false:=bU aa
 have cd:decide (64<=(k:Int))=false:=bU aa
 have cn:decide (64<=k)=false:=bU aa
 obtain⟨H,HC⟩:=av h hC
 have b8:base<=w.heap.size:=bq h.low (Nat.le_of_lt h.blk.lt)
 clear h hC ui vK
 go_enter func239,ntmps239
 go_wp2
 go_loopg [] (k+1-C.length) (fun q wr=>∃(A:Option Addr) (n c:Nat) (D:List Int),n=C.length+(k+1-C.length-q)/\q<=k+1-C.length/\Hid (D=C++List.replicate (k+1-C.length-q) 0)/\Hid (eu wr base g F E (.slice A n c) L G D kp) /\
  Hid (∀b,(Value.slice A n c).ownBlock=some b->l.ownBlock=some b\/w.heap.size<=b)/\Hid (Rest w wr g F E l)/\Hid (Below base w wr))
 case atStart=>obtain⟨A,c,rfl⟩:=aJ.shape H.counts;exact⟨A,C.length,c,C,aa,aS _,by simp[Hid],H,fun b a=>.inl a,Rest.refl _ _ _ _ _,Below.refl _ _⟩
 case round =>
  obtain⟨A,n,c,D,hn,hq,HD,f,R,HR,Y⟩:=hrel;have s:n=D.length:=f.counts.cap.1;have nX:=HC.Y;have hcell:∀i,wr.cell? ⟨g,i,none⟩=_:=fun i=>af.cell f.blk i;have Jf:∀i,wr.frozen? ⟨g,i,none⟩=false:=fun i=>af.free f.blk i;have b7:=Y.size;have WW:=f.blk.lt;by_cases N:n<=k
  ·have KN:0<gk:=aa;have a8:(n:Int)<=(k:Int):=aa;obtain⟨HN,S,C8⟩:=aZ hn hq s;clear hn hq N s;go_wp2_with(at_builtin;refine cH _ rfl _ _ 22 rfl base 3 .i64 underlying22 mz _ D rfl (f.counts.alloc _) wr 1 1 [0] rfl rfl ?c1 ?c2 ?c3 ?_)
   case c1=>exact bJ.one _ .i64 _ _
   case c2=>have:=HN.Y;have:=S.Y;have:=C8.Y;simp;omega
   case c3=>simp;omega
   intro v' V hown' B K;have y:=f.alloc (.cells #[oZ] 3);have W:=y.FR hown' B;have o:=y.blk.grown B (aY y.counts y.blk ag);obtain⟨Q,T,rfl⟩:=hown'.shape;have M:=y.counts.bh (Y.alloc aa _) B (by simp;omega) (aS _);have bR:∀i,V.cell? ⟨g,i,none⟩=_:=fun i=>af.cell o i;have bY:∀i,V.frozen? ⟨g,i,none⟩=false:=fun i=>af.free o i;have m:∀b,(Value.slice Q (D++[0]).length T).ownBlock=some b->l.ownBlock=some b\/w.heap.size<=b:=by
    intro b a;rcases K with j|j
    ·exact R.Y b (j.symm.trans a)
    ·rw[j]at a;injection a with a;(try simp at a);exact .inr aa
   have Z:Rest w (V.setCell ⟨g,2,none⟩ (.slice Q (D++[0]).length T)) g F E l:=by
    intro b a U j h2 J;rw[dp _ _ _ _ U];have a7:some b≠(Value.slice A n c).ownBlock:=by
     intro x;rcases R.Y b x.symm with h|h
     ·exact J h
     ·omega
    have aq:b<(wr.alloc (.cells #[oZ] 3)).heap.size:=by simp;omega
    rw[B.block b aq a7,Below.heap_alloc _ _ _ aa];exact HR.Y b a U j h2 J
   have u:=M.setCell (p:=⟨g,2,none⟩) H.low (.slice Q (D++[0]).length T);have hlen:(D++[0]).length=n+1:=by have:=C8.Y;simp;omega
   rw[hlen]at W m Z u;obtain⟨q7,X,jh,bE,bz⟩:=dh W m Z u hlen;have b6:g<V.heap.size:=by have:=B.size;simp at this;omega
   rw[hlen];clear W m Z u hlen hown' B K M hcell Jf y o;go_wp2;go_roundg (gk-1);case measure=>omega
   case rel=>refine⟨Q,n+1,T,D++[0],by have:=HN.Y;have:=S.Y;omega,by have:=S.Y;omega,?_,q7,X,jh,bE⟩;show D++[0]=_;rw[HD.Y,Oy,show k+1-C.length-gk+1=k+1-C.length-(gk-1)by have:=S.Y;omega]
  ·have r:D=C++List.replicate (k+1-C.length) 0:=by
    rw[HD.Y];congr 2;omega
   obtain⟨z,P⟩:∃z,D[k]?=some z:=⟨_,cY aa⟩
   have O:D≠[]:=by rintro rfl;simp at P
   obtain⟨gc,c9,KO,jM,bg⟩:=f.counts.form O
   injection KO with e1 e2 e3
   have hA:=e1;have a6:=e3
   subst hA;subst a6
   have fH:=f.counts.cell P
   have b5:=f.counts.frozen k
   have a8:¬(n:Int)<=(k:Int):=aa
   have rE:(k:Int)<(n:Int):=aa
   have I:js C (k:Int)=D.set k (wrap64 (z+1)):=by unfold js;rw[ah aa,gu, <-r];simp[P]
   obtain⟨SH,bo,HZ⟩:=aZ I r P
   clear I r P O s hn hq N e2
   go_wp2
   go_end0
   refine⟨rfl,⟨.slice gc n c,?_,R⟩,?_,Y.setCell (p:=⟨gc,k,none⟩) jM _⟩
   ·rw[SH.Y];have d:=f.Y;refine⟨d.blk.bO ?_ _,dw d.words (fun b a x=>?_) _,dw d.log (fun b a x=>?_) _,d.counts.stored k _,d.low⟩
    ·intro x;exact aY d.counts d.blk ag (congrArg some x)
    ·exact dH d.words d.counts ag a (congrArg some x)
    ·exact dH d.log d.counts ag a (congrArg some x)
   ·intro b a U j h2 J;rw[dp _ _ _ _ ?_]
    ·exact HR.Y b a U j h2 J
    ·rintro rfl;rcases R.Y _ rfl with h|h
     ·exact J h
     ·exact absurd a (Nat.not_lt.2 h)
end
end Go.Proofs.YtjcjjiieblineaaGreat
