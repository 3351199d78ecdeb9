/- Walks and plain facts. No condition. -/
import Derived.Test.YtjcjjiieblineaaGreatPb
import Derived.Test.YtjcjjiieblineaaGreatPc
namespace Go.Proofs.YtjcjjiieblineaaGreat
open Go.RowKit Go.Proofs.Tryz
set_option maxHeartbeats 8000000
set_option maxRecDepth 100000
set_option linter.all false
variable {w w' w1:World}{n g base k m i t b j:Nat}{α:Type}{A:Option Addr}{c:Mo.bH}{e:TypeId}{v a0 a1 u:Value}{S S':Nat->Prop}{zs:List Int}{xs:List α}{f:α->List Value}{y z:α}
theorem Qm(i:Nat)(x y:Int)(hx0:0<=x)(hx1:x<18446744073709551616)(uL:0<=y)(KA:y<18446744073709551616)(hx:x.toNat%2 ^ i=0)(hy:y.toNat<2 ^ i):bits BinOp.or IntKind.u64 x y=x+y:=by rw[u64_or _ _ hx0 hx1 uL KA,nat_join i _ _ hx hy];omega
section
variable(w:World)
theorem sD(ix tag:Int):Calls prog 141 #[.agg #[ix,tag]] w fun e w'=>e=.returned (Mo.iI ⟨ix,tag⟩)/\Below w w w':=by
 go_enter func141,ntmps141;go_wp2;all_goals go_ret
 all_goals exact⟨bS (by rw[Bool.eq_iff_iff];simp[Mo.iI]<;>omega),ak (aj w) _⟩
theorem fE(ix tag:Int):Calls prog 103 #[.agg #[ix,tag]] w fun e w'=>e=.returned (.int .u64 (Mo.bL ⟨ix,tag⟩))/\Below w w w':=by
 rcases hg:Mo.iI ⟨ix,tag⟩with _|_
 ·have HG:=aa hg;have HF:=aa (sD (w.alloc (.cells #[ix,tag] 35)) ix tag);rw[hg]at HF;clear hg;go_enter func103,ntmps103;go_wp2_with fail;refine HF.mono ?_;rintro e w1 ⟨rfl,hb⟩;have HB:=aa (Below.trans (ak (aj w) (.cells #[ix,tag] 35)) (hb.mono aF));clear hb;go_wp2_with fail;go_ret;exact⟨jU (by unfold Mo.bL;rw[HG.out];rfl),HB⟩
 ·have tN:=hg;simp only[Mo.iI,cU]at tN;obtain⟨b1,b2,b3,b4⟩:=tN;have HG:=aa hg;have HF:=aa (sD (w.alloc (.cells #[ix,tag] 35)) ix tag);rw[hg]at HF;have h1:IntKind.u64.wrap tag=tag:=by simp only[ig];omega
  have h2:IntKind.u64.wrap (ix+1)=ix+1:=by simp only[ig];omega
  have h3:IntKind.i64.wrap (ix+1)=ix+1:=bK _ ae;have h4:IntKind.u64.wrap (tag*65536)=tag*65536:=by simp only[ig];omega
  have h5:bits BinOp.or IntKind.u64 (tag*65536) (ix+1)=tag*65536+(ix+1):=Qm 16 _ _ ae ae ae ae ae ae;clear hg;go_enter func103,ntmps103;go_wp2_with fail;refine HF.mono ?_;rintro e w1 ⟨rfl,hb⟩;have hc:∀i,w1.cell? ⟨w.heap.size,i,none⟩=_:=fun i=>hb.cell (p:=⟨w.heap.size,i,none⟩) aF;have HB:=aa (Below.trans (ak (aj w) (.cells #[ix,tag] 35)) (hb.mono aF));clear hb;go_wp2_with fail;go_ret;exact⟨jU (by unfold Mo.bL;rw[HG.out];simp;omega),HB⟩
theorem ZL(x:Int)(h0:0<=x)(h1:x<18446744073709551616):bits BinOp.and IntKind.u64 x 65535=x%65536:=by rw[u64_and _ _ h0 h1 ae ae,show(65535:Int).toNat=2 ^ 16-1 from rfl,Nat.and_two_pow_sub_one_eq_mod];omega
theorem zC(x:Int)(h0:0<=x)(h1:x<18446744073709551616):bits BinOp.and IntKind.u64 x 4294967295=x%4294967296:=by exact Tw
theorem Ld{w:World}{t:TypeId}(h:af w g t #[a0,a1])(u0 u1:Value):af ((w.setCell ⟨g,0,none⟩ u0).setCell ⟨g,1,none⟩ u1) g t #[u0,u1]:=(h.bb 0 u0).bb 1 u1
theorem Le{a w:World}(h:Below a a w)(hg:a.heap.size<=g)(u0 u1:Value):Below a a ((w.setCell ⟨g,0,none⟩ u0).setCell ⟨g,1,none⟩ u1):=(h.setCell (p:=⟨g,0,none⟩) hg _).setCell (p:=⟨g,1,none⟩) hg _
theorem Gc{w:World}(hg:g=w.heap.size)(hb:Below w w w1)(hk:af w1 g 35 #[a0,a1])(u0 u1:Value) :
 af ((w1.setCell ⟨g,0,none⟩ u0).setCell ⟨g,1,none⟩ u1) g 35 #[u0,u1]/\Below w w ((w1.setCell ⟨g,0,none⟩ u0).setCell ⟨g,1,none⟩ u1) :=
 ⟨Ld hk u0 u1,Le hb (by rw[hg];exact aS _) u0 u1⟩
theorem yx(x:Int)(h0:0<=x)(h1:x<18446744073709551616) :
 Calls prog 154 #[.int .u64 x] w fun e w'=>e=.returned (.tuple #[.agg #[.int .i64 (Mo.gy x).1.ix,.int .i64 (Mo.gy x).1.tag],.bool (Mo.gy x).2])/\Below w w w':=by
 have e1:=ZL x h0 h1
 have e2:=zC (x/65536) ae ae
 have e3:IntKind.i64.wrap (x%65536)=x%65536:=bK _ ae
 have e4:IntKind.i64.wrap (x%65536-1)=x%65536-1:=bK _ ae
 have e5:IntKind.i64.wrap (x/65536%4294967296)=x/65536%4294967296:=bK _ ae
 obtain⟨wd,hwd⟩:=aD (Mo.bL ⟨x%65536-1,x/65536%4294967296⟩)
 have HR:Hid (Mo.gy x=if wd≠x\/x=0 then(⟨0,0⟩,false)else(⟨x%65536-1,x/65536%4294967296⟩,true)):=by unfold Hid;rw[hwd];rfl
 have YC:=aa (fE ((w.alloc (.cells #[oZ,oZ] 35)).alloc (.cells #[.int .i64 (x%65536-1),.int .i64 (x/65536%4294967296)] 35)) (x%65536-1) (x/65536%4294967296))
 rw[<-hwd]at YC
 clear hwd
 have mid:∀w1,Below (w.heap.size+1+1) ((w.alloc (.cells #[oZ,oZ] 35)).alloc (.cells #[.int .i64 (x%65536-1),.int .i64 (x/65536%4294967296)] 35)) w1 ->
  af w1 w.heap.size 35 #[oZ,oZ]/\af w1 (w.heap.size+1) 35 #[.int .i64 (x%65536-1),.int .i64 (x/65536%4294967296)]/\Below w w w1:=by
  intro w1 hb
  exact⟨((af.new w _ _).alloc _).below hb ae,(af.newAt (w.alloc (.cells #[oZ,oZ] 35)) _ _ aF).below hb ae,(ak (ak (aj w) _) _).trans (hb.mono ae)⟩
 have ZM:=aa mid
 clear mid
 by_cases hq:wd≠x\/x=0
 ·have d1:(wd !=x || x==0)=true:=by simpa using hq
  have HQ:=aa hq;clear hq;rcases d2:(wd !=x)with _|_
  ·rw[d2]at d1;have d3:(x==0)=true:=d1;exact ZN
  ·exact ZN
 ·have d2:(wd !=x)=false:=by simp;omega
  have d3:(x==0)=false:=by simp;omega
  have HQ:=aa hq;clear hq;go_enter func154,ntmps154;go_wp2_with fail;refine YC.mono ?_;rintro e w1 ⟨rfl,hb⟩;obtain⟨k0,k1,kb⟩:=ZM.out w1 (hb.mono aF);obtain⟨hc0,hf0,hz0⟩:=af.aK k0;have hc1:=fun i=>af.cell k1 i;go_wp2_with fail;obtain⟨Bl,AH⟩:=Gc rfl kb k0 (.int .i64 (x%65536-1)) (.int .i64 (x/65536%4294967296));generalize((w1.setCell ⟨w.heap.size,0,none⟩ (.int .i64 (x%65536-1))).setCell ⟨w.heap.size,1,none⟩ (.int .i64 (x/65536%4294967296)))=wf at Bl AH ⊢;have l7:=fun i=>af.cell Bl i;refine bodyPost_ret (v:=.tuple #[.agg #[.int .i64 (x%65536-1),.int .i64 (x/65536%4294967296)],true]) ?_ rfl ?_
  ·simp[results,results154,go_sem,l7]
  ·rw[HR.out,ai HQ.out];exact⟨rfl,AH⟩
theorem Qn(H:Int)(w':World):(Builtin.min_ #[3,3] 3 #[.int .i64 H,.int .i64 4294967295]).run prog w'=.ok (.int .i64 (min H 4294967295)) w':=by
 have e:(if(4294967295:Int)<H then(4294967295:Int)else H)=min H 4294967295:=by split<;>omega
 show Result.ok (Value.int .i64 (if(4294967295:Int)<H then 4294967295 else H)) w'=_;rw[e]
theorem Hz(ix tag last:Int)(hb0:tag<=4294967295) :
 Calls prog 233 #[.agg #[ix,tag],last] w fun e w'=>e=.returned (.tuple #[.agg #[.int .i64 (Mo.ej ⟨ix,tag⟩ last).1.ix,.int .i64 (Mo.ej ⟨ix,tag⟩ last).1.tag],.bool (Mo.ej ⟨ix,tag⟩ last).2])/\Below w w w':=by
 have VG:=Qn last
 obtain⟨m,hm⟩:=aD (min last 4294967295)
 rw[<-hm]at VG
 have HR:Hid (Mo.ej ⟨ix,tag⟩ last=if tag<0\/m<=tag then(⟨0,0⟩,false)else if Mo.iI ⟨ix,tag+1⟩=true then(⟨ix,tag+1⟩,true)else(⟨0,0⟩,false)):=by unfold Hid;rw[hm];rfl
 clear hm
 by_cases h1:tag<0
 ·have d1:decide (tag<0)=true:=dg h1;have HQ:=aa h1;clear h1;go_enter func233,ntmps233;go_wp2_with fail;refine bodyPost_ret (v:=.tuple #[.agg #[oZ,oZ],false]) ?_ rfl ?_
  ·simp[results,results233,go_sem]
  ·rw[HR.out,au (.inl HQ.out)];exact⟨rfl,ak (ak (ak (aj w) _) _) _⟩
 have a1:decide (tag<0)=false:=bJ h1
 have a1h:¬(tag<0):=h1
 clear h1
 by_cases h1:m<=tag
 ·have d1:decide (m<=tag)=true:=dg h1;have HQ:=aa h1;clear h1;go_enter func233,ntmps233;go_wp2_with fail;refine bodyPost_ret (v:=.tuple #[.agg #[oZ,oZ],false]) ?_ rfl ?_
  ·simp[results,results233,go_sem]
  ·rw[HR.out,au (.inr HQ.out)];exact⟨rfl,ak (ak (ak (aj w) _) _) _⟩
 have a2:decide (m<=tag)=false:=bJ h1
 have a2h:¬(m<=tag):=h1
 clear h1
 have HQ:Hid (¬(tag<0\/m<=tag)):=fun h=>h.elim a1h a2h
 have htw:IntKind.i64.wrap (tag+1)=tag+1:=bK _ ae
 have HGD:=aa (sD ((((w.alloc (.cells #[ix,tag] 200)).alloc (.cells #[oZ,oZ] 35)).alloc (.cells #[ix,.int .i64 (tag+1)] 35))) ix (tag+1))
 have mid:∀w1,Below (w.heap.size+1+1+1) ((((w.alloc (.cells #[ix,tag] 200)).alloc (.cells #[oZ,oZ] 35)).alloc (.cells #[ix,.int .i64 (tag+1)] 35))) w1 ->
  af w1 (w.heap.size+1) 35 #[oZ,oZ]/\af w1 (w.heap.size+1+1) 35 #[ix,.int .i64 (tag+1)]/\Below w w w1:=by
  intro w1 hb
  exact⟨((af.newAt (w.alloc (.cells #[ix,tag] 200)) _ _ aF).alloc _).below hb ae,(af.newAt ((w.alloc (.cells #[ix,tag] 200)).alloc (.cells #[oZ,oZ] 35)) _ _ aF).below hb ae,(ak (ak (ak (aj w) _) _) _).trans (hb.mono ae)⟩
 have ZM:=aa mid
 clear mid a1h a2h
 rcases hgd:Mo.iI ⟨ix,tag+1⟩with _|_
 ·rw[hgd]at HGD;have HG:Hid ((if Mo.iI ⟨ix,tag+1⟩=true then((⟨ix,tag+1⟩:Mo.Rf),true)else(⟨0,0⟩,false))=(⟨0,0⟩,false)):=by rw[hgd];rfl
  clear hgd;go_enter func233,ntmps233;go_wp2_with fail;refine HGD.mono ?_;rintro e w1 ⟨rfl,hb⟩;obtain⟨k0,k1,kb⟩:=ZM.out w1 (hb.mono aF);obtain⟨hc0,hf0,hz0⟩:=af.aK k0;have hc1:=fun i=>af.cell k1 i;go_wp2_with fail;have Bl:=Ld k0 oZ oZ;have AH:=Le kb (g:=w.heap.size+1) ae oZ oZ;generalize((w1.setCell ⟨w.heap.size+1,0,none⟩ oZ).setCell ⟨w.heap.size+1,1,none⟩ oZ)=wf at Bl AH ⊢;have l7:=fun i=>af.cell Bl i;refine bodyPost_ret (v:=.tuple #[.agg #[oZ,oZ],false]) ?_ rfl ?_
  ·simp[results,results233,go_sem,l7]
  ·rw[HR.out,ai HQ.out,HG.out];exact⟨rfl,AH⟩
 ·rw[hgd]at HGD;have HG:Hid ((if Mo.iI ⟨ix,tag+1⟩=true then((⟨ix,tag+1⟩:Mo.Rf),true)else(⟨0,0⟩,false))=(⟨ix,tag+1⟩,true)):=by rw[hgd];rfl
  clear hgd;go_enter func233,ntmps233;go_wp2_with fail;refine HGD.mono ?_;rintro e w1 ⟨rfl,hb⟩;obtain⟨k0,k1,kb⟩:=ZM.out w1 (hb.mono aF);obtain⟨hc0,hf0,hz0⟩:=af.aK k0;have hc1:=fun i=>af.cell k1 i;go_wp2_with fail;have Bl:=Ld k0 ix (.int .i64 (tag+1));have AH:=Le kb (g:=w.heap.size+1) ae ix (.int .i64 (tag+1));generalize((w1.setCell ⟨w.heap.size+1,0,none⟩ ix).setCell ⟨w.heap.size+1,1,none⟩ (.int .i64 (tag+1)))=wf at Bl AH ⊢;have l7:=fun i=>af.cell Bl i;refine bodyPost_ret (v:=.tuple #[.agg #[ix,.int .i64 (tag+1)],true]) ?_ rfl ?_
  ·simp[results,results233,go_sem,l7]
  ·rw[HR.out,ai HQ.out,HG.out];exact⟨rfl,AH⟩
theorem Ia(ix tag:Int):Calls prog 240 #[.agg #[ix,tag]] w fun e w'=>e=.returned (.agg #[ix,tag])/\Below w w w':=by
 go_enter func240,ntmps240;go_wp2_with fail;refine bodyPost_ret (v:=.agg #[ix,tag]) ?_ rfl ?_
 ·simp[results,results240,go_sem]
 ·exact⟨rfl,ak (ak (aj w) _) _⟩
theorem Bn(p g:Int):Calls prog 282 #[p,g] w fun e w'=>e=.returned (Mo.lU p g)/\w=w':=by
 go_enter func282,ntmps282;go_wp2;all_goals go_ret
 all_goals refine⟨jU ?_,rfl⟩
 all_goals unfold Mo.lU
 all_goals first
  |(rw[au ae];done)
  |(rw[ai ae];done)
  |(rw[ai ae];rw[bK (g*8) ae];exact bK _ ae)
theorem vp(h:Int):Calls prog 185 #[h] w fun e w'=>e=.returned (.tuple #[.int .i64 (Mo.ew h).1,.int .i64 (Mo.ew h).2.1,.bool (Mo.ew h).2.2])/\w=w':=by
 by_cases hq:h<8\/32768<=h
 ·have e:Mo.ew h=(0,0,false):=by unfold Mo.ew;rw[au hq]
  rw[e];clear e;by_cases h1:h<8
  ·have d1:decide (h<8)=true:=dg h1;exact ZO
  ·have d1:decide (h<8)=false:=bJ h1;have d2:decide (32768<=h)=true:=dg ae;exact ZO
 ·have e:Mo.ew h=(h%8,h/8,true):=by unfold Mo.ew;rw[ai hq]
  rw[e];have e1:h.tmod 8=h%8:=Int.tmod_eq_emod_of_nonneg ae;have e2:IntKind.i64.wrap (h.tdiv 8)=h/8:=by rw[Int.tdiv_eq_ediv_of_nonneg ae];exact bK _ ae
  have d1:decide (h<8)=false:=bJ ae;have d2:decide (32768<=h)=false:=bJ ae;clear e;go_enter func185,ntmps185;go_wp2_with fail;refine bodyPost_ret (v:=.tuple #[.int .i64 (h%8),.int .i64 (h/8),true]) ?_ rfl ⟨rfl,rfl⟩;simp[results,results185,go_sem]
end
theorem Lf(n:Int)(h:-9223372036854775808<=n/\n<=9223372036854775807):wrap64 n=n:=by unfold wrap64;omega
theorem Gd(x:Int)(h0:0<=x)(h1:x<18446744073709551616):bits BinOp.and IntKind.u64 x 15=x%16:=by rw[u64_and _ _ h0 h1 ae ae,show(15:Int).toNat=15 from rfl,nat_mask4];omega
theorem Qo(x:Int)(h0:0<=x)(h1:x<18446744073709551616):bits BinOp.and IntKind.u64 x 1=x%2:=by rw[u64_and _ _ h0 h1 ae ae,show(1:Int).toNat=1 from rfl,nat_mask1];omega
theorem zD(x:Int)(h0:0<=x)(h1:x<18446744073709551616):bits BinOp.and IntKind.u64 x 255=x%256:=by rw[u64_and _ _ h0 h1 ae ae,show(255:Int).toNat=255 from rfl,nat_mask8];omega
theorem vq(x:Int)(h0:0<=x)(h1:x<18446744073709551616):bits BinOp.and IntKind.u64 x 65535=x%65536:=by rw[u64_and _ _ h0 h1 ae ae,show(65535:Int).toNat=65535 from rfl,nat_mask16];omega
theorem ZP(x:Int)(h0:0<=x)(h1:x<18446744073709551616):bits BinOp.and IntKind.u64 x 4294967295=x%4294967296:=by exact Tw
theorem Lg(i:Nat)(x y:Int)(hx0:0<=x)(hx1:x<18446744073709551616)(uL:0<=y)(KA:y<18446744073709551616)(hx:x%2 ^ i=0)(hy:y<2 ^ i):bits BinOp.or IntKind.u64 x y=x+y:=by obtain⟨a,rfl⟩:=Int.eq_ofNat_of_zero_le hx0;obtain⟨b,rfl⟩:=Int.eq_ofNat_of_zero_le uL;rw[u64_or _ _ hx0 hx1 uL KA,fF,fF,nat_join i a b (by exact_mod_cast hx) (by exact_mod_cast hy)];simp
theorem lj(i:Nat)(x y:Int)(hx0:0<=x)(hx1:x<18446744073709551616)(uL:0<=y)(KA:y<18446744073709551616)(hx:y%2 ^ i=0)(hy:x<2 ^ i):bits BinOp.or IntKind.u64 x y=x+y:=by obtain⟨a,rfl⟩:=Int.eq_ofNat_of_zero_le hx0;obtain⟨b,rfl⟩:=Int.eq_ofNat_of_zero_le uL;rw[u64_or _ _ hx0 hx1 uL KA,fF,fF,Nat.or_comm,nat_join i b a (by exact_mod_cast hx) (by exact_mod_cast hy)];simp;omega
def rf(s c o v:Int):Bool:=decide (0<=s/\s<=1048575/\0<=c/\c<=15/\0<=o/\o<=255/\0<=v/\v<=4294967295)
def DW(s c o v:Int):Int:=if rf s c o v=true then s*17592186044416+c*1099511627776+o*4294967296+v else 0
def fT(n m:Int):Bool:=decide (0<=n/\n<m)
theorem VH(s c o v:Int)(b1:0<=s)(b2:s<=1048575)(b3:0<=c)(b4:c<=15)(b5:0<=o)(b6:o<=255)(b7:0<=v)(b8:v<=4294967295) :
 bits BinOp.or IntKind.u64 (bits BinOp.or IntKind.u64 (bits BinOp.or IntKind.u64 (s*17592186044416) (c*1099511627776)) (o*4294967296)) v=DW s c o v:=by
 rw[Lg 44 (s*17592186044416) (c*1099511627776) ae ae ae ae ae ae,
  Lg 40 _ (o*4294967296) ae ae ae ae ae ae,
  Lg 32 _ v ae ae ae ae ae ae]
 unfold DW
 rw[au (by simp[rf];omega)]
section
variable(w:World)
theorem sF(n:Int):Calls prog 118 #[n,.int .i64 32] w fun e w'=>e=.returned (fT n 4294967296)/\w=w':=by exact Qp
theorem zE(n:Int):Calls prog 118 #[n,.int .i64 16] w fun e w'=>e=.returned (fT n 65536)/\w=w':=by exact Qp
theorem ZQ(n:Int):Calls prog 118 #[n,.int .i64 8] w fun e w'=>e=.returned (fT n 256)/\w=w':=by exact Qp
theorem ZR(n:Int):Calls prog 118 #[n,.int .i64 4] w fun e w'=>e=.returned (fT n 16)/\w=w':=by exact Qp
variable(s c o v:Int)
theorem vr:Calls prog 213 #[.agg #[s,c,o,v]] w fun e w'=>e=.returned (rf s c o v)/\Below w w w':=by
 go_enter func213,ntmps213;go_wp2_with fail;refine(sF _ _).mono ?_;rintro e w' ⟨rfl,rfl⟩;rcases h1:fT v 4294967296 with _|_
 ·go_wp2;go_ret;exact⟨bS (by symm;simp[fT]at h1;simp[rf];omega),(Below.refl _ _).alloc (aS _) _⟩
 go_wp2_with fail;refine(ZQ _ _).mono ?_;rintro e w' ⟨rfl,rfl⟩;rcases h2:fT o 256 with _|_
 ·go_wp2;go_ret;exact⟨bS (by symm;simp[fT]at h2;simp[rf];omega),(Below.refl _ _).alloc (aS _) _⟩
 go_wp2_with fail;refine(ZR _ _).mono ?_;rintro e w' ⟨rfl,rfl⟩;rcases h3:fT c 16 with _|_
 ·go_wp2;go_ret;exact⟨bS (by symm;simp[fT]at h3;simp[rf];omega),(Below.refl _ _).alloc (aS _) _⟩
 go_wp2;all_goals go_ret
 all_goals exact⟨bS (by rw[Bool.eq_iff_iff];simp[fT]at h1 h2 h3;simp[rf]<;>omega),(Below.refl _ _).alloc (aS _) _⟩
theorem qj:Calls prog 175 #[.agg #[s,c,o,v]] w fun e w'=>e=.returned (.int .u64 (DW s c o v))/\Below w w w':=by
 rcases hg:rf s c o v with _|_
 ·have HG:=aa hg;clear hg;go_enter func175,ntmps175;go_wp2_with fail;refine(vr _ s c o v).mono ?_;exact ZT
 ·have tN:=hg;simp only[rf,cU]at tN;obtain⟨b1,b2,b3,b4,b5,b6,b7,b8⟩:=tN;have HG:=aa hg;clear hg;go_enter func175,ntmps175;go_wp2_with fail;refine(vr _ s c o v).mono ?_;rw[HG.out];rintro e w1 ⟨rfl,hb1⟩;have hc:∀i,w1.cell? ⟨w.heap.size,i,none⟩=_:=fun i=>hb1.cell (p:=⟨w.heap.size,i,none⟩) aF;go_wp2_with fail;go_ret;exact⟨jU (VH s c o v b1 b2 b3 b4 b5 b6 b7 b8),((Below.refl _ _).alloc (aS _) _).trans (hb1.mono aF)⟩
def rS(x:Int):Int:=x/17592186044416
def rC(x:Int):Int:=x/1099511627776%16
def rO(x:Int):Int:=x/4294967296%256
def rV(x:Int):Int:=x%4294967296
theorem acv{a b c d a' b' c' d':Int}(h1:a=a')(h2:b=b')(h3:c=c')(h4:d=d'):Ending.returned (.agg #[a,b,c,d])=.returned (.agg #[a',b',c',d']):=by rw[h1,h2,h3,h4]
theorem ke(x:Int)(h0:0<=x)(h1:x<18446744073709551616) :
 Calls prog 173 #[.int .u64 x] w fun e w'=>e=.returned (.agg #[(rS x),(rC x),(rO x),(rV x)])/\Below w w w':=by
 have H1:=aa h1;clear h1
 go_enter func173,ntmps173
 go_wp2
 refine bodyPost_ret (v:=.agg #[(wrap64 (x/17592186044416)),(wrap64 (bits BinOp.and IntKind.u64 (x/1099511627776) 15)),(wrap64 (bits BinOp.and IntKind.u64 (x/4294967296) 255)),(wrap64 (bits BinOp.and IntKind.u64 x 4294967295))]) (by simp[results,results173,go_sem]) rfl ⟨?_,(Below.refl _ _).alloc (aS _) _⟩
 have h1:=H1.out
 rw[Gd _ ae ae,zD _ ae ae,ZP _ ae ae]
 refine acv ?_ ?_ ?_ ?_<;>simp only[rS,rC,rO,rV]<;>exact Lf _ ae
def Lh(o:Int):Bool:=o !=14
def yz(s o:Int):Int:=if Lh o=true then wrap64 (wrap64 (2*s)+1)else wrap64 (2*s)
theorem yA(s c o v:Int):Calls prog 220 #[.agg #[s,c,o,v]] w fun e w'=>e=.returned (Lh o)/\Below w w w':=by go_enter func220,ntmps220;go_wp2;go_ret;exact⟨rfl,(Below.refl _ _).alloc (aS _) _⟩
theorem Bo(s c o v:Int):Calls prog 207 #[.agg #[s,c,o,v]] w fun e w'=>e=.returned (yz s o)/\Below w w w':=by
 rcases hf:Lh o with _|_
 all_goals
  have HF:=aa hf;clear hf;go_enter func207,ntmps207;go_wp2_with fail;refine(yA _ s c o v).mono ?_;rw[HF.out];rintro e w1 ⟨rfl,hb1⟩;have hc:∀i,w1.cell? ⟨w.heap.size,i,none⟩=_:=fun i=>hb1.cell (p:=⟨w.heap.size,i,none⟩) aF;go_wp2_with fail;go_ret;exact⟨jU (by unfold yz;rw[HF.out];simp),((Below.refl _ _).alloc (aS _) _).trans (hb1.mono aF)⟩
def zF(x y:Int):Bool:=decide (yz (rS x) (rO x)<yz (rS y) (rO y))
theorem vu(x y:Int)(hx0:0<=x)(hx:x<18446744073709551616)(uL:0<=y)(hy:y<18446744073709551616) :
 Calls prog 168 #[.int .u64 x,.int .u64 y] w fun e w'=>e=.returned (zF x y)/\Below w w w':=by
 have H1:=aa hx;have H2:=aa hy;clear hx hy
 go_enter func168,ntmps168
 go_wp2_with fail
 refine(ke _ x hx0 H1).mono ?_;rintro e w1 ⟨rfl,hb1⟩
 go_wp2_with fail
 refine(Bo _ _ _ _ _).mono ?_;rintro e w2 ⟨rfl,hb2⟩
 go_wp2_with fail
 refine(ke _ y uL H2).mono ?_;rintro e w3 ⟨rfl,hb3⟩
 go_wp2_with fail
 refine(Bo _ _ _ _ _).mono ?_;rintro e w4 ⟨rfl,hb4⟩
 go_wp2_with fail
 go_ret
 exact⟨rfl,ag (ag (ag hb1 hb2) hb3) hb4⟩
end
def bk(c:Int×Int×Int):List Value:=[c.1,c.2.1,c.2.2]
theorem eZ(c:Int×Int×Int):(bk c).length=3:=rfl
theorem sG(c:Int×Int×Int):∀u∈bk c,u.oneCell'=true:=by intro u hu;simp[bk]at hu;rcases hu with rfl|rfl|rfl<;>rfl
theorem Ge{cs:List (Int×Int×Int)}(h:cN w bk A cs)(hi:i<cs.length) :
 ∃ad d hd v,A=some ad/\cs[i]?=some (d,hd,v)/\w.cell? (ad.add (i*3))=some d /\
  w.cell? ⟨(ad.add (i*3)).block,(ad.add (i*3)).off+1,none⟩=some hd/\w.cell? ⟨(ad.add (i*3)).block,(ad.add (i*3)).off+2,none⟩=some v:=by
 obtain⟨ad,⟨d,hd,v⟩,h1,h2,h3⟩:=cN.at_ eZ ah h hi
 refine⟨ad,d,hd,v,h1,h2,by simpa[add_zero]using h3 0 _ rfl,?_,?_⟩
 ·have:=h3 1 _ rfl;rwa [add_lit _ _ ah]at this
 ·have:=h3 2 _ rfl;rwa [add_lit _ _ ah]at this
def DX(d h v:Int):Bool:=(d==1 || d==2) && fT h 65536 && fT v 4294967296
def mL(c:Int×Int×Int):Bool:=DX c.1 c.2.1 c.2.2
def bt(ki ar va:Int)(cs:List (Int×Int×Int)):Bool:=decide (1<=ki/\ki<=9) && fT ar 65536 && fT va 4294967296 && decide (cs.length<=3) && cs.all mL
theorem DY{p:α->Bool}{cs:List α}(hn:n=cs.length)(hk:¬k<n)(h:∀(j:Nat) (c:α),j<k->cs[j]?=some c->p c=true):cs.all p=true:=by rw[List.all_eq_true];intro c hc;obtain⟨i,hi⟩:=List.mem_iff_getElem?.1 hc;exact h i c (by have:=cE hi;omega) hi
theorem Qq{p:α->Bool}{cs:List α}{c:α}(h:cs[k]?=some c)(hp:p c=false):cs.all p=false:=by
 rcases ha:cs.all p with _|_
 ·rfl
 ·have:=List.all_eq_true.1 ha c (dO h);rw[hp]at this;cases this
theorem VI{p:α->Prop}{cs:List α}{c:α}(h:∀(j:Nat) (c:α),j<k->cs[j]?=some c->p c)(hc:cs[k]?=some c)(hp:p c):∀(j:Nat) (c:α),j<k+1->cs[j]?=some c->p c:=by
 intro j c' hj hc';by_cases hjk:j=k
 ·subst hjk;rw[hc]at hc';injection hc' with hc'
  rw[<-hc'];exact hp
 ·exact h j c' ae hc'
section
variable(w:World) (d h v:Int)
theorem Qr:Calls prog 119 #[.agg #[d,h,v]] w fun e w'=>e=.returned (DX d h v)/\Below w w w':=by
 by_cases hd:d=1\/d=2
 ·have hdb:(d==1)=true\/(d==1)=false/\(d==2)=true:=by rcases hd with rfl|rfl<;>decide
  have hm:DX d h v=(fT h 65536 && fT v 4294967296):=by rcases hd with rfl|rfl<;>simp[DX]
  have HM:=aa hm;have HD:=aa hd;clear hm hd;rcases hdb with hdb|⟨hdb,adM⟩
  all_goals
   go_enter func119,ntmps119;go_wp2_with fail;refine(zE _ _).mono ?_;rintro e w' ⟨rfl,rfl⟩;rcases h1:fT h 65536 with _|_
   ·have H1:=aa h1;clear h1;go_wp2_with fail;go_ret;exact⟨bS (by rw[HM.out,H1.out];rfl),ak (aj _) _⟩
   ·have H1:=aa h1;clear h1;go_wp2_with fail;refine(sF _ _).mono ?_;rintro e w' ⟨rfl,rfl⟩;go_wp2_with fail;go_ret;exact⟨bS (by rw[HM.out,H1.out];simp),ak (aj _) _⟩
 ·have h1:(d==1)=false:=by simp;omega
  have h2:(d==2)=false:=by simp;omega
  clear hd;go_enter func119,ntmps119;go_wp2_with fail;go_ret;exact⟨bS (by unfold DX;rw[h1,h2];simp),ak (aj _) _⟩
end
section
variable(w:World) (ki ar va:Int) (df:Bool) (A:Option Addr) (c:Nat) (cs:List (Int×Int×Int))
theorem lq(hl:cs.length<=9223372036854775807)(hr:cN w bk A cs) :
 Calls prog 77 #[.agg #[ki,ar,va,df,.slice A cs.length c]] w fun e w'=>e=.returned (bt ki ar va cs)/\Below w w w':=by
 obtain⟨n,hn⟩:=aD cs.length
 rw[<-hn]at hl ⊢
 have HN:=aa hn;clear hn
 have HR:=aa hr;clear hr
 by_cases h1:ki<1
 ·exact ZU
 by_cases h2:9<ki
 ·exact ZU
 have hk:decide (1<=ki/\ki<=9)=true:=by simp;omega
 rcases h3:fT ar 65536 with _|_
 ·have hq:bt ki ar va cs=false:=by unfold bt;rw[h3];simp
  have HQ:=aa hq;have H3:=aa h3;clear hq h3 hk;go_enter func77,ntmps77;go_wp2_with fail;refine(zE _ _).mono ?_;rw[H3.out];rintro e w' ⟨rfl,rfl⟩;go_wp2_with fail;go_ret;exact⟨bS HQ.symm,ak (aj _) _⟩
 rcases h4:fT va 4294967296 with _|_
 ·have hq:bt ki ar va cs=false:=by unfold bt;rw[h4];simp
  exact ZW
 by_cases h5:3<n
 ·have hq:bt ki ar va cs=false:=by unfold bt;rw[show decide (cs.length<=3)=false by rw[<-HN.out];simp;omega];simp
  exact ZW
 have hq:bt ki ar va cs=cs.all mL:=by unfold bt;rw[h3,h4,hk,show decide (cs.length<=3)=true by rw[<-HN.out];simp;omega];simp
 have HQ:=aa hq;have H3:=aa h3;have H4:=aa h4;clear hq h3 h4 hk hl
 go_enter func77,ntmps77
 go_wp2_with fail
 refine(zE _ _).mono ?_;rw[H3.out];rintro e w' ⟨rfl,rfl⟩
 go_wp2_with fail
 refine(sF _ _).mono ?_;rw[H4.out];rintro e w' ⟨rfl,rfl⟩
 go_wp2_with fail
 go_loopw[34] (fun i wr=>∃k:Nat,k<=n/\i=k/\Below w w wr/\Hid (∀(j:Nat) (x:Int×Int×Int),j<k->cs[j]?=some x->mL x=true)) (fun i _=>n-(intOf i).toNat)
 case atStart=>exact⟨0,aY _,rfl,ak (aj _) _,fun j x hj=>by omega⟩
 case round =>
  obtain⟨k,hk,rfl,hb,HS⟩:=hrel;by_cases hlt:k<n
  ·obtain⟨ad,d,hd,v,hA,hx,hc0,hc1,hc2⟩:=Ge (HR.below hb) (i:=k) (by rw[<-HN.out];exact hlt);subst hA;have HX:=aa hx;clear hx;go_wp2_with fail;refine(Qr _ _ _ _).mono ?_;rcases hm:DX d hd v with _|_
   ·have HM:=aa hm;clear hm;rintro e w1 ⟨rfl,hb1⟩;go_wp2_with fail;go_ret;exact⟨bS (by rw[HQ.out,Qq HX.out HM.out]),ag (ak hb _) hb1⟩
   ·have HM:=aa hm;clear hm;rintro e w1 ⟨rfl,hb1⟩;go_wp2_with fail;go_roundw;case rel=>exact⟨k+1,ae,by go_num,ag (ak hb _) hb1,VI (p:=fun x=>mL x=true) HS HX HM⟩
    case measure=>simp[intOf];omega
  ·go_wp2_with fail;go_ret;exact⟨bS (by rw[HQ.out,DY HN.out hlt HS.out]),hb⟩
end
section
variable(A B:Option Addr) (c d:Nat) (w:World)
end
def iL(p:α->Bool)(xs:List α):Int:=match xs.findIdx? p with|some i=>i|none=>-1
theorem zG{p:α->Bool}(hz:xs[k]?=some z)(h:∀(j:Nat) (y:α),j<k->xs[j]?=some y->p y=false)(hp:p z=true):iL p xs=k:=by
 have:xs.findIdx? p=some k:=by
  rw[List.findIdx?_eq_some_iff_getElem];have hk:=cE hz;refine⟨hk,?_,fun j hj=>?_⟩
  ·rw[(List.getElem?_eq_some_iff.1 hz).2];exact hp
  ·have:=h j _ hj (cD ae);simp[this]
 unfold iL;rw[this]
theorem Li{p:α->Bool}(hn:n=xs.length)(hk:¬k<n)(h:∀(j:Nat) (y:α),j<k->xs[j]?=some y->p y=false):iL p xs=-1:=by
 have:xs.findIdx? p=none:=by rw[List.findIdx?_eq_none_iff];intro x hx;obtain⟨j,hj⟩:=List.getElem?_of_mem hx;exact h j x (by have:=cE hj;omega) hj
 unfold iL;rw[this]
theorem kH(p:α->Bool)(xs:List α):decide (0<=iL p xs)=xs.any p:=by
 unfold iL;rw[List.any_eq,Bool.eq_iff_iff,cU,cU];cases h:xs.findIdx? p with
 |none =>
  rw[List.findIdx?_eq_none_iff]at h;constructor
  ·intro h1;exact absurd h1 ah
  ·rintro⟨x,hx,hp⟩;rw[h x hx]at hp;cases hp
 |some i=>rw[List.findIdx?_eq_some_iff_getElem]at h;obtain⟨h1,h2,_⟩:=h;exact⟨fun _=>⟨_,List.getElem_mem h1,h2⟩,fun _=>by show(0:Int)<=(i:Int);omega⟩
theorem rh{p:α->Bool}(hz:xs[k]?=some z)(h:∀(j:Nat) (y:α),j<k->xs[j]?=some y->p y=false)(hp:p z=false):∀(j:Nat) (y:α),j<k+1->xs[j]?=some y->p y=false:=by
 intro j y hj hy;by_cases e:j=k
 ·subst e;rw[hz]at hy;injection hy with hy;rw[<-hy];exact hp
 ·exact h j y ae hy
section
variable(w:World)
theorem nJ(n a b:Int):Calls prog 192 #[n,a,b] w fun e w'=>e=.returned (Mo.iy n a b)/\w=w':=by go_enter func192,ntmps192;exact Tx
theorem mo(n a b:Int)(h:a<=n/\n<=b):Calls prog 192 #[n,a,b] w fun e w'=>e=.returned true/\w=w':=by have:=nJ w n a b;rw[show Mo.iy n a b=true by unfold Mo.iy;exact dg h]at this;exact this
end
def xM(cp z:Int):Bool:= !Mo.iy z 0 cp
def xN(z:Int):Bool:= !Mo.iy z 0 4294967295
section
variable(w:World) {g:Nat} {cp:Int}
theorem Qs(z:Int)(_:g<w.heap.size)(hc:w.cell? ⟨g,3,none⟩=some cp) :
 Calls prog 222 #[z,.pointer g] w fun e w'=>e=.returned (xM cp z)/\w=w':=by
 go_enter func222,ntmps222
 go_wp2_with fail
 refine(nJ w z 0 cp).mono ?_
 exact Qt
theorem Lj(hk:g<w.heap.size/\w.cell? ⟨g,3,none⟩=some cp)(z:Int)(w':World)(hb:Below w w w') :
 Calls prog 222 #[z,.pointer g] w' fun e w2=>e=.returned (xM cp z)/\Below w' w' w2 :=
 (Qs w' z (bF hk.1 hb.size) ((hb.cell (p:=⟨g,3,none⟩) hk.1).trans hk.2)).mono fun _ _ ⟨h1,h2⟩=>⟨h1,h2▸aj w'⟩
theorem Qu(hk:g<w.heap.size/\w.cell? ⟨g,3,none⟩=some cp)(A:Option Addr)(m:Nat)(xs:List Int)(n:Nat)(hn:n=xs.length)(hr:bC w .i64 A xs)(hl:n<=100000) :
 Calls prog 242 #[.slice A n m,.func (.func 222) #[] #[.pointer g]] w fun e w'=>e=.returned (iL (xM cp) xs)/\Below w w w':=by
 have HN:=aa hn;have HR:=aa hr
 have gu:=aa (fun z w' (hb:Below w w w')=>Lj w hk z w' hb)
 clear hn hr hk
 go_enter func242,ntmps242
 go_wp2_with fail
 go_loopw[5,8] (fun _ i wr=>∃k:Nat,k<=n/\i=k/\Hid (Below w w wr)/\Hid (∀(j:Nat) (y),j<k->xs[j]?=some y->(xM cp) y=false)) (fun _ i _=>n-(intOf i).toNat)
 case atStart=>exact⟨0,aY _,rfl,aj w,fun j _ h=>absurd h (Nat.not_lt_zero _)⟩
 case round =>
  obtain⟨k,hk,rfl,HB,HX⟩:=hrel;by_cases hlt:k<n
  ·obtain⟨ad,z,hA,hz,hc⟩:=bC.at_ (HR.below HB) (i:=k) (by rw[<-HN.out];exact hlt);subst hA;have HZ:=aa hz;clear hz;have HC:=aa (gu z wr HB);skip;rcases hp:(xM cp) z with _|_
   ·exact ZX
   ·exact ZY
  ·exact YD
theorem Qv(hk:g<w.heap.size/\w.cell? ⟨g,3,none⟩=some cp)(A:Option Addr)(m:Nat)(xs:List Int)(n:Nat)(hn:n=xs.length)(hr:bC w .i64 A xs)(hl:n<=100000) :
 Calls prog 221 #[.slice A n m,.func (.func 222) #[] #[.pointer g]] w fun e w'=>e=.returned (xs.any (xM cp))/\Below w w w':=by
 have HI:=aa (Qu w hk A m xs n hn hr hl)
 have HA:=aa (kH (xM cp) xs)
 obtain⟨r,hr'⟩:=aD (iL (xM cp) xs)
 rw[<-hr']at HI HA
 clear hn hr hr' hk
 exact ZZ
end
section
variable(w:World)
theorem Lk(z:Int) :
 Calls prog 247 #[z] w fun e w'=>e=.returned (xN z)/\w=w':=by
 go_enter func247,ntmps247
 go_wp2_with fail
 refine(nJ w z 0 4294967295).mono ?_
 exact Qt
theorem Ib(z:Int)(w':World)(_:Below w w w') :
 Calls prog 247 #[z] w' fun e w2=>e=.returned (xN z)/\Below w' w' w2 :=
 (Lk w' z).mono fun _ _ ⟨h1,h2⟩=>⟨h1,h2▸aj w'⟩
theorem Ll(A:Option Addr)(m:Nat)(xs:List Int)(n:Nat)(hn:n=xs.length)(hr:bC w .i64 A xs)(hl:n<=100000) :
 Calls prog 242 #[.slice A n m,.func (.func 247) #[] #[]] w fun e w'=>e=.returned (iL xN xs)/\Below w w w':=by
 have HN:=aa hn;have HR:=aa hr
 have gu:=aa (fun z w' (hb:Below w w w')=>Ib w z w' hb)
 clear hn hr
 go_enter func242,ntmps242
 go_wp2_with fail
 go_loopw[5,8] (fun _ i wr=>∃k:Nat,k<=n/\i=k/\Hid (Below w w wr)/\Hid (∀(j:Nat) (y),j<k->xs[j]?=some y->xN y=false)) (fun _ i _=>n-(intOf i).toNat)
 case atStart=>exact⟨0,aY _,rfl,aj w,fun j _ h=>absurd h (Nat.not_lt_zero _)⟩
 case round =>
  obtain⟨k,hk,rfl,HB,HX⟩:=hrel;by_cases hlt:k<n
  ·obtain⟨ad,z,hA,hz,hc⟩:=bC.at_ (HR.below HB) (i:=k) (by rw[<-HN.out];exact hlt);subst hA;have HZ:=aa hz;clear hz;have HC:=aa (gu z wr HB);skip;rcases hp:xN z with _|_
   ·exact ZX
   ·exact ZY
  ·exact YD
theorem Lm(A:Option Addr)(m:Nat)(xs:List Int)(n:Nat)(hn:n=xs.length)(hr:bC w .i64 A xs)(hl:n<=100000) :
 Calls prog 221 #[.slice A n m,.func (.func 247) #[] #[]] w fun e w'=>e=.returned (xs.any xN)/\Below w w w':=by
 have HI:=aa (Ll w A m xs n hn hr hl)
 have HA:=aa (kH xN xs)
 obtain⟨r,hr'⟩:=aD (iL xN xs)
 rw[<-hr']at HI HA
 clear hn hr hr'
 exact ZZ
end
section
theorem aG(h:Mo.aN c=true):(1<=c.threads/\c.threads<=64)/\(1<=c.nodes/\c.nodes<=64)/\(1<=c.aJ/\c.aJ<=32)/\(0<=c.aB/\c.aB<=4)/\(1<=c.tags/\c.tags<=4294967295)/\(1<=c.bn/\c.bn<=1048575)/\Mo.mM c=true:=by unfold Mo.aN at h;simp only[dI,Mo.iy,cU]at h;obtain⟨⟨⟨⟨⟨⟨h1,h2⟩,h3⟩,h4⟩,h5⟩,h6⟩,h7⟩:=h;exact⟨h1,h2,h3,h4,h5,h6,h7⟩
theorem pE(h:Mo.mM c=true)(hk:c.kind=1\/c.kind=2):(1<=c.cap/\c.cap<=16)/\c.chans=0/\c.ba=0/\c.start=[]:=by unfold Mo.mM at h;rw[au hk]at h;simp only[dI,Mo.iy,cU,beq_iff_eq]at h;obtain⟨⟨⟨h1,h2⟩,h3⟩,h4⟩:=h;exact⟨h1,h2,h3,List.eq_nil_of_length_eq_zero h4⟩
theorem oL(h:Mo.mM c=true)(hk:c.kind=3):(1<=c.chans/\c.chans<=8)/\(0<=c.cap/\c.cap<=8)/\(1<=c.ba/\c.ba<=4095)/\(c.start.length:Int)<=c.chans/\c.start.any (xM c.cap)=false:=by unfold Mo.mM at h;rw[ai ae,au hk]at h;simp only[dI,Mo.iy,cU]at h;obtain⟨⟨⟨⟨h1,h2⟩,h3⟩,h4⟩,h5⟩:=h;refine⟨h1,h2,h3,h4,?_⟩;rw[List.any_eq_false];intro x hx;have:=List.all_eq_true.1 h5 x hx;rw[cU]at this;unfold xM Mo.iy;rw[dg this];simp
theorem Bp(h:Mo.mM c=true):c.kind=1\/c.kind=2\/c.kind=3:=by
 unfold Mo.mM at h;split at h
 ·rename_i h1;omega
 ·split at h
  ·rename_i h1;omega
  ·cases h
end
section
variable(w:World)
theorem Qw(hc:Mo.mM c=true)(hn:n=c.start.length)(hr:bC w .i64 A c.start) :
 Calls prog 193 #[.agg #[c.kind,c.threads,c.chans,c.cap,c.nodes,c.aJ,c.aB,c.tags,c.bn,c.ba,.slice A n k]] w fun e w'=>e=.returned true/\Below w w w':=by
 rcases Bp hc with hk|hk|hk
 ·obtain⟨h1,h2,h3,h4⟩:=pE hc (.inl hk);have d1:(c.kind==1)=true:=by simpa using hk
  exact Z0
 ·obtain⟨h1,h2,h3,h4⟩:=pE hc (.inr hk);have d1:(c.kind==1)=false:=by rw[hk];rfl
  have VJ:(c.kind==2)=true:=by simpa using hk
  exact Z0
 ·obtain⟨h1,h2,h3,h4,h5⟩:=oL hc hk;have d1:(c.kind==1)=false:=by rw[hk];rfl
  have VJ:(c.kind==2)=false:=by rw[hk];rfl
  have adN:(c.kind==3)=true:=by simpa using hk
  have d2:decide ((n:Int)<=c.chans)=true:=dg ae;have tP:=aa (mo (w.alloc (cr c A n k)) c.chans 1 8 h1);have xw:=aa (mo (w.alloc (cr c A n k)) c.cap 0 8 h2);have Dm:=aa (mo (w.alloc (cr c A n k)) c.ba 1 4095 h3);have YE:∀(fn:Fn) (first cap:Array Value) (w:World),(Instr.makeFunc fn first cap).run prog w=.ok (.func fn first cap) w:=fun _ _ _ _=>rfl;have HH:=aa (Qv (w.alloc (cr c A n k)) (g:=w.heap.size) (cp:=c.cap) ⟨aF,aF⟩ A k c.start n hn (hr.alloc _) ae);rw[h5]at HH;clear hk h1 h2 h3 h4 h5 hn hr hc;go_enter func193,ntmps193;go_wp2_with fail;refine tP.mono ?_;rintro e w' ⟨rfl,rfl⟩;go_wp2_with fail;refine xw.mono ?_;rintro e w' ⟨rfl,rfl⟩;go_wp2_with fail;refine Dm.mono ?_;rintro e w' ⟨rfl,rfl⟩;go_wp2_with fail;refine HH.mono ?_;exact Tz
theorem fG(hc:Mo.aN c=true)(hn:n=c.start.length)(hr:bC w .i64 A c.start) :
 Calls prog 139 #[.agg #[c.kind,c.threads,c.chans,c.cap,c.nodes,c.aJ,c.aB,c.tags,c.bn,c.ba,.slice A n k]] w fun e w'=>e=.returned (.int .i64 0)/\Below w w w':=by
 obtain⟨h1,h2,h3,h4,h5,h6,h7⟩:=aG hc
 have tP:=aa (mo (w.alloc (cr c A n k)) c.threads 1 64 h1)
 have xw:=aa (mo (w.alloc (cr c A n k)) c.nodes 1 64 h2)
 have Dm:=aa (mo (w.alloc (cr c A n k)) c.aJ 1 32 h3)
 have Z1:=aa (mo (w.alloc (cr c A n k)) c.aB 0 4 h4)
 have Z2:=aa (mo (w.alloc (cr c A n k)) c.tags 1 4294967295 h5)
 have Z3:=aa (mo (w.alloc (cr c A n k)) c.bn 1 1048575 h6)
 have HO:=aa (Qw (w.alloc (cr c A n k)) h7 hn (hr.alloc _) (k:=k))
 clear h1 h2 h3 h4 h5 h6 h7 hn hr hc
 go_enter func139,ntmps139
 go_wp2_with fail
 refine tP.mono ?_
 rintro e w' ⟨rfl,rfl⟩
 go_wp2_with fail
 refine xw.mono ?_
 rintro e w' ⟨rfl,rfl⟩
 go_wp2_with fail
 refine Dm.mono ?_
 rintro e w' ⟨rfl,rfl⟩
 go_wp2_with fail
 refine Z1.mono ?_
 rintro e w' ⟨rfl,rfl⟩
 go_wp2_with fail
 refine Z2.mono ?_
 rintro e w' ⟨rfl,rfl⟩
 go_wp2_with fail
 refine Z3.mono ?_
 rintro e w' ⟨rfl,rfl⟩
 go_wp2_with fail
 refine HO.mono ?_
 exact Tz
end
def cA(w:World)(S:Nat->Prop)(k:IntKind)(A:Option Addr)(zs:List Int):Prop:=bC w k A zs/\∀ad,A=some ad->zs≠[]->S ad.block
def dv(w:World)(S:Nat->Prop)(f:α->List Value)(A:Option Addr)(xs:List α):Prop:=cN w f A xs/\∀ad,A=some ad->xs≠[]->S ad.block
def Sm(S:Nat->Prop)(w w':World):Prop:=∀b,S b->w'.heap[b]?=w.heap[b]?
theorem Sm.cell(h:Sm S w w'){a:Addr}(ha:S a.block):w'.cell? a=w.cell? a:=by unfold World.cell?;rw[h _ ha]
theorem Rd.same(h:Sm S w w'){xs:List Value}(hr:Rd w A xs)(hs:∀ad,A=some ad->xs≠[]->S ad.block):Rd w' A xs:=by
 intro i u hu;obtain⟨ad,h1,h2⟩:=hr i u hu;have hne:xs≠[]:=by rintro rfl;simp at hu
 refine⟨ad,h1,?_⟩;have hb:(ad.add i).block=ad.block:=by unfold Addr.add;split<;>rfl
 rw[h.cell (by rw[hb];exact hs ad h1 hne)];exact h2
theorem cA.same(h:Sm S w w'){k:IntKind}(hr:cA w S k A zs):cA w' S k A zs:=⟨Rd.same h hr.1 (fun ad ha hne=>hr.2 ad ha (by rintro rfl;exact hne rfl)),hr.2⟩
theorem cA.mono(hs:∀b,S b->S' b){k:IntKind}(hr:cA w S k A zs):cA w S' k A zs:=⟨hr.1,fun ad h1 h2=>hs _ (hr.2 ad h1 h2)⟩
theorem dv.same(h:Sm S w w')(hr:dv w S f A xs):dv w' S f A xs:=⟨Rd.same h hr.1 (fun ad ha hne=>hr.2 ad ha (by rintro rfl;exact hne rfl)),hr.2⟩
theorem dv.mono(hs:∀b,S b->S' b)(hr:dv w S f A xs):dv w S' f A xs:=⟨hr.1,fun ad h1 h2=>hs _ (hr.2 ad h1 h2)⟩
def Ty(w:World)(e:TypeId)(b:Nat):Prop:=∃ys fr,w.heap[b]?=some (.cells ys e fr)
theorem Ty.lt(h:Ty w e b):b<w.heap.size:=by obtain⟨ys,fr,h⟩:=h;exact af.DN h
theorem Ty.below(hb:Below w w w')(h:Ty w e b):Ty w' e b:=by have hl:=h.lt;obtain⟨ys,fr,h⟩:=h;exact⟨ys,fr,(hb.block b hl).trans h⟩
abbrev Row (m:Nat):={r:List Value // r.length=m/\∀u∈r,u.oneCell'=true}
def dR(r:Row m):List Value:=r.val
theorem bQ(r:Row m):(dR r).length=m:=r.property.1
theorem fH(r:Row m):∀u∈dR r,u.oneCell'=true:=r.property.2
abbrev qN (α:Type):=World->(Nat->Prop)->List Value->α->Prop
structure Good {α:Type} (P:qN α):Prop where
 mono:∀{w:World} {S S':Nat->Prop} {r:List Value} {x:α},(∀b,S b->S' b)->P w S r x->P w S' r x
 same:∀{w w':World} {S:Nat->Prop} {r:List Value} {x:α},Sm S w w'->P w S r x->P w' S r x
def jF(m:Nat)(P:qN α)(w:World)(S:Nat->Prop)(A:Option Addr)(xs:List α):Prop :=∃rows:List (Row m),rows.length=xs.length/\cN w dR A rows/\(∀(i:Nat) (r:Row m) (x:α),rows[i]?=some r->xs[i]?=some x->P w S r.val x)
def aH(e:TypeId)(m:Nat)(P:qN α)(w:World)(base:Nat)(S:Nat->Prop)(v:Value)(xs:List α):Prop :=∃rows:List (Row m),rows.length=xs.length/\aI w base e m dR v rows/\(∀(i:Nat) (r:Row m) (x:α),rows[i]?=some r->xs[i]?=some x->P w S r.val x)
section
variable{α:Type} {m:Nat} {P:qN α} {w w':World} {S S':Nat->Prop} {A:Option Addr} {xs:List α}
theorem jF.at_(hm:0<m)(h:jF m P w S A xs)(hi:i<xs.length) :
 ∃ad x r,A=some ad/\xs[i]?=some x/\P w S r x/\r.length=m/\∀(j:Nat) (u:Value),r[j]?=some u->w.cell? ((ad.add (i*m)).add j)=some u:=by
 obtain⟨rows,h1,h2,h3⟩:=h
 obtain⟨ad,r,a1,a2,a3⟩:=cN.at_ bQ hm h2 (i:=i) ae
 exact⟨ad,xs[i],r.val,a1,cD hi,h3 i r _ a2 (cD hi),r.property.1,a3⟩
theorem jF.nil(m:Nat)(P:qN α)(w:World)(S:Nat->Prop)(A:Option Addr):jF m P w S A []:=⟨[],rfl,cN.nil _ _ _,fun i r x h=>by simp at h⟩
theorem jF.below(g:Good P)(hs:∀b,S b->b<w.heap.size)(hb:Below w w w')(h:jF m P w S A xs):jF m P w' S A xs:=by obtain⟨rows,h1,h2,h3⟩:=h;exact⟨rows,h1,h2.below hb,fun i r x a b=>g.same (fun c hc=>hb.block c (hs c hc)) (h3 i r x a b)⟩
theorem jF.mono(g:Good P)(hs:∀b,S b->S' b)(h:jF m P w S A xs):jF m P w S' A xs:=by obtain⟨rows,h1,h2,h3⟩:=h;exact⟨rows,h1,h2,fun i r x a b=>g.mono hs (h3 i r x a b)⟩
variable{e:TypeId} {base:Nat} {v:Value}
theorem aH.nil(e:TypeId)(m:Nat)(P:qN α)(w:World)(base:Nat)(S:Nat->Prop):aH e m P w base S oN []:=⟨[],rfl,aI.nil _ _ _ _ _,fun i r x h=>by simp at h⟩
theorem aH.mono(g:Good P)(hs:∀b,S b->S' b)(h:aH e m P w base S v xs):aH e m P w base S' v xs:=by obtain⟨rows,h1,h2,h3⟩:=h;exact⟨rows,h1,h2,fun i r x a b=>g.mono hs (h3 i r x a b)⟩
theorem aH.ag(g:Good P)(hs:∀b,S b->b<w.heap.size)(hb:Below w w w')(h:aH e m P w base S v xs):aH e m P w' base S v xs:=by obtain⟨rows,h1,h2,h3⟩:=h;exact⟨rows,h1,h2.ag hb,fun i r x a b=>g.same (fun c hc=>hb.block c (hs c hc)) (h3 i r x a b)⟩
theorem aH.YF(h:aH e m P w base S v xs):∃A c,v=.slice A xs.length c/\xs.length<=c/\jF m P w S A xs:=by
 obtain⟨rows,h1,h2,h3⟩:=h;obtain⟨A,c,rfl,hr⟩:=h2.rd;rw[<-h1];have hc:rows.length<=c:=by
  rcases h2.2 with⟨h',h0⟩|⟨g',cap',cur,h',_,_,hc,_⟩
  ·injection h' with _ h1 h2;omega
  ·injection h' with _ h1 h2;subst h2;exact hc
 exact⟨A,c,rfl,hc,rows,h1,hr,h3⟩
theorem aH.app{v':Value}{rows:List (Row m)}{r:Row m}{x:α}(g:Good P)(h1:rows.length=xs.length)(h3:∀(i:Nat) (r:Row m) (x:α),rows[i]?=some r->xs[i]?=some x->P w S r.val x)(hs:Sm S w w')(ho:aI w' base e m dR v' (rows++[r]))(hx:P w' S r.val x):aH e m P w' base S v' (xs++[x]):=by
 refine⟨rows++[r],by simp[h1],ho,fun i r' x' hr yB=>?_⟩
 by_cases hi:i<rows.length
 ·rw[List.getElem?_append_left hi]at hr;rw[List.getElem?_append_left ae]at yB;exact g.same hs (h3 i r' x' hr yB)
 ·have e1:i=rows.length:=by
   have:=cE hr;simp at this;omega
  subst e1
  rw[List.getElem?_append_right (aS _),Nat.sub_self]at hr
  rw[h1,List.getElem?_append_right (aS _),Nat.sub_self]at yB
  simp at hr yB
  subst hr yB
  exact hx
end
theorem bP{l:List α}{r:α}(h:l[t]?=some r):r∈l:=dO h
theorem mem_set{l:List α}{x:α}(h:x∈l.set t y):x=y\/x∈l:=by
 rcases List.mem_or_eq_of_mem_set h with h|h
 ·exact .inr h
 ·exact .inl h
theorem aL.pU{k:IntKind}{c:Nat}(h:aL w base e k (.slice A n c) zs):n=zs.length/\bC w k A zs:=by exact VK
section
variable{α:Type} {w w':World} {base:Nat} {e:TypeId} {m:Nat} {f:α->List Value} {v:Value} {cs:List α}
theorem aI.xO{c:Nat}(h:aI w base e m f (.slice A n c) cs):n=cs.length/\cN w f A cs:=by exact VK
theorem aI.shape(h:aI w base e m f v cs):∃A c,v=.slice A cs.length c:=by obtain⟨A',c',hv,_⟩:=h.rd;exact⟨A',c',hv⟩
theorem aI.empty(w:World)(e:TypeId)(m:Nat)(f:α->List Value):aI (w.alloc (.cells #[] e)) w.heap.size e m f (.slice w.heap.size 0 0) []:=World.ownsRow_lit w #[] 0 (aS _) (aY _) aF
theorem aI.weak{base':Nat}(h:aI w base e m f v cs)(hb:base'<=base):aI w base' e m f v cs:=by exact Tt
theorem aI.cap{c:Nat}(h:aI w base e m f (.slice A n c) cs):n=cs.length/\n<=c:=by exact Ts
theorem aI.form(h:aI w base e m f v cs)(hne:cs≠[]):∃g c,v=.slice (some ⟨g,0,none⟩) cs.length c/\base<=g/\g<w.heap.size:=by exact ZI
theorem aI.cells{c:Nat}(hf:∀c,(f c).length=m)(h:aI w base e m f (.slice g n c) cs){x:α}(hx:cs[i]?=some x)(hu:(f x)[j]?=some u):w.cell? ⟨g,i*m+j,none⟩=some u:=by
 obtain⟨hn,hr⟩:=h.xO;have hj:j<m:=by rw[<-hf x];exact(List.getElem?_eq_some_iff.1 hu).1
 obtain⟨ad,h1,h2⟩:=hr (i*m+j) u (by rw[qX hf cs i x j hx hj];exact hu);injection h1 with h1
 subst h1;rw[nC,Nat.zero_add]at h2;exact h2
theorem aI.frozen{c:Nat}(h:aI w base e m f (.slice g n c) cs)(i:Nat):w.frozen? ⟨g,i,none⟩=false:=by have hn:=h.cap.1;subst hn;exact World.ownsRow.frozenAt h i
theorem Ln(hf:∀c,(f c).length=m):∀(cs:List α) (i:Nat) (x y:α) (j:Nat) (u:Value),cs[i]?=some x->j<m->f y=(f x).set j u->(cs.set i y).flatMap f=(cs.flatMap f).set (i*m+j) u:=by
 intro cs;induction cs with
 |nil=>intro i x y j u h;simp at h
 |cons z l ih =>
  intro i x y j u h hj hy;rcases i with _|i
  ·simp at h;subst h;simp only[List.set_cons_zero,List.flatMap_cons,Nat.zero_mul,Nat.zero_add];rw[hy,List.set_append_left _ _ (by rw[hf];exact hj)]
  ·simp only[List.getElem?_cons_succ]at h;simp only[List.set_cons_succ,List.flatMap_cons];rw[ih i x y j u h hj hy,List.set_append_right _ _ (by rw[hf,Nat.add_mul];omega),hf];rw[show(i+1)*m+j-m=i*m+j by rw[Nat.add_mul];omega]
theorem aI.stored{c:Nat}(hf:∀c,(f c).length=m)(h:aI w base e m f (.slice g n c) cs){x y:α}(hx:cs[i]?=some x)(hj:j<m)(hy:f y=(f x).set j u) :
 aI (w.setCell ⟨g,i*m+j,none⟩ u) base e m f (.slice g n c) (cs.set i y):=by
 have hn:=h.cap.1
 subst hn
 have:=(World.ownsRow.stored h (i*m+j) u).1
 unfold aI
 rw[cK,Ln hf cs i x y j u hx hj hy]
 exact this
end
def gv(w:World)(g:Nat)(u0 u1 u2 u3 u4:Value):World:=((((w.setCell ⟨g,0,none⟩ u0).setCell ⟨g,1,none⟩ u1).setCell ⟨g,2,none⟩ u2).setCell ⟨g,3,none⟩ u3).setCell ⟨g,4,none⟩ u4
theorem eQ{B:Nat}(h:Below B w w1)(hb:B<=b)(u0 u1 u2 u3 u4:Value):Below B w (gv w1 b u0 u1 u2 u3 u4):=((((h.setCell hb _).setCell hb _).setCell hb _).setCell hb _).setCell hb _
theorem dw{t:TypeId}{xs:List Value}{ys:Array Value}(h:w.ownsRow base e m v n xs)(hg:af w g t ys)(hne:e≠t)(u0 u1 u2 u3 u4:Value) :
 (gv w g u0 u1 u2 u3 u4).ownsRow base e m v n xs:=by
 have hp:∀g',v.ownBlock=some g'->g'≠g:=fun g' hv he=>aV h hg hne (by rw[hv,he])
 exact cG (cG (cG (cG (cG h (p:=⟨g,0,none⟩) hp _) (p:=⟨g,1,none⟩) hp _) (p:=⟨g,2,none⟩) hp _) (p:=⟨g,3,none⟩) hp _) (p:=⟨g,4,none⟩) hp _
theorem gN{t:TypeId}{a2 a3 a4:Value}(h:af w g t #[a0,a1,a2,a3,a4])(u0 u1 u2 u3 u4:Value):af (gv w g u0 u1 u2 u3 u4) g t #[u0,u1,u2,u3,u4]:=((((h.bb 0 u0).bb 1 u1).bb 2 u2).bb 3 u3).bb 4 u4
def iM(f:α->List Value)(h1:∀x,(f x).length=m)(h2:∀x,∀u∈f x,u.oneCell'=true)(x:α):Row m:=⟨f x,h1 x,h2 x⟩
theorem yC(f:α->List Value)(h1:∀x,(f x).length=m)(h2:∀x,∀u∈f x,u.oneCell'=true)(xs:List α):(xs.map (iM f h1 h2)).flatMap dR=xs.flatMap f:=by rw[List.flatMap_map];rfl
theorem cN.rows{h1:∀x,(f x).length=m}{h2:∀x,∀u∈f x,u.oneCell'=true}:cN w dR A (xs.map (iM f h1 h2))↔cN w f A xs:=by unfold cN;rw[yC]
theorem aI.rows{h1:∀x,(f x).length=m}{h2:∀x,∀u∈f x,u.oneCell'=true}:aI w base e m dR v (xs.map (iM f h1 h2))↔aI w base e m f v xs:=by unfold aI;rw[yC,eK]
def eG(E:TypeId)(w:World)(rows:List (Row m))(n:Nat)(e:Ending)(w':World):Prop :=∃B d,e=.returned (.slice B n d)/\n<=d/\aI w' w.heap.size E m dR (.slice B n d) rows/\Below w w w'
def ri(E:TypeId)(m:Nat)(f:α->List Value)(w:World)(xs:List α)(n:Nat)(e:Ending)(w':World):Prop :=∃B d,e=.returned (.slice B n d)/\n<=d/\aI w' w.heap.size E m f (.slice B n d) xs/\Below w w w'
def Gf(E:TypeId)(k:IntKind)(w:World)(xs:List Int)(n:Nat)(e:Ending)(w':World):Prop :=∃B d,e=.returned (.slice B n d)/\n<=d/\aL w' w.heap.size E k (.slice B n d) xs/\Below w w w'
def Qx(E:TypeId)(m:Nat)(Q:qN α)(w:World)(S:Nat->Prop)(xs:List α)(n:Nat)(e:Ending)(w':World):Prop :=∃B d,e=.returned (.slice B n d)/\n<=d/\aH E m Q w' w.heap.size S (.slice B n d) xs/\Below w w w'
theorem eG.toF{E:TypeId}{h1:∀x,(f x).length=m}{h2:∀x,∀u∈f x,u.oneCell'=true}{e:Ending}(h:eG E w (xs.map (iM f h1 h2)) n e w'):ri E m f w xs n e w':=by obtain⟨B,d,a,b,c,k⟩:=h;exact⟨B,d,a,b,aI.rows.1 c,k⟩
section
variable(w:World) (A:Option Addr) (c:Nat)
theorem DZ:(prog.info? 200).map (fun i=>(i.zero,i.size,i.bytes))=some (some (.agg #[oZ,oZ]),2,16):=by kernel_rfl
theorem Ic:(prog.info? 203).map (fun i=>(i.zero,i.size,i.bytes))=some (some (.agg #[oZ,oZ,oZ]),3,24):=by kernel_rfl
theorem D1:(prog.info? 110).map (fun i=>(i.zero,i.size,i.bytes))=some (some (.agg #[oZ,oZ,oZ]),3,24):=by kernel_rfl
theorem sH:(prog.info? 48).map (fun i=>(i.zero,i.size,i.bytes))=some (some (.agg #[oZ,oZ,oZ,oZ]),4,32):=by kernel_rfl
theorem qm:(prog.info? 83).map (fun i=>(i.zero,i.size,i.bytes))=some (some (.agg #[oZ,oZ,false,false,oN]),5,48):=by kernel_rfl
theorem qo:(prog.info? 79).map (fun i=>(i.zero,i.size,i.bytes))=some (some (.agg #[false,oZ,oZ,oN]),4,48):=by kernel_rfl
theorem mR:(prog.info? 66).map (fun i=>(i.zero,i.size,i.bytes))=some (some (.agg #[oZ,oZ,oZ,oZ,oZ,oZ,false,oN]),8,80):=by kernel_rfl
theorem vw:(prog.info? 96).map (fun i=>(i.zero,i.size,i.bytes))=some (some (.agg #[oZ,oZ,oN]),3,40):=by kernel_rfl
theorem nK:(prog.info? 93).map (fun i=>(i.zero,i.size,i.bytes))=some (some (.agg #[oZ,oZ,oZ,oZ,oZ,oZ,oZ,false,oN,oZ,oZ,oZ,oZ]),13,120):=by kernel_rfl
def Qy(f:FuncId)(E:TypeId)(m:Nat)(w:World)(A:Option Addr)(c:Nat):Prop:=∀(xs:List (Row m)) {n:Nat},n=xs.length->n<=1000000->cN w dR A xs->Calls prog f #[.slice A n c] w (eG E w xs n)
theorem nL:Qy 137 200 2 w A c /\
 Qy 138 203 3 w A c /\
 Qy 96 110 3 w A c /\
 Qy 267 48 4 w A c /\
 Qy 271 83 5 w A c /\
 Qy 281 79 4 w A c /\
 Qy 66 66 8 w A c /\
 Qy 39 96 3 w A c /\
 Qy 59 93 13 w A c:=by
 refine⟨?g0,?g1,?g2,?g3,?g4,?g5,?g6,?g7,?g8⟩
 all_goals
  intro xs n hn hl hr;have HN:=aa hn;clear hn;have HR:=aa hr;clear hr
 case' g0=>have hnil:=fun w'=>Lib.run_eql_slice_nil (P:=prog) w' 36 200 A n c 0 0 underlying36;go_enter func137,ntmps137
 case' g1=>have hnil:=fun w'=>Lib.run_eql_slice_nil (P:=prog) w' 37 203 A n c 0 0 underlying37;go_enter func138,ntmps138
 case' g2=>have hnil:=fun w'=>Lib.run_eql_slice_nil (P:=prog) w' 40 110 A n c 0 0 underlying40;go_enter func96,ntmps96
 case' g3=>have hnil:=fun w'=>Lib.run_eql_slice_nil (P:=prog) w' 69 48 A n c 0 0 underlying69;go_enter func267,ntmps267
 case' g4=>have hnil:=fun w'=>Lib.run_eql_slice_nil (P:=prog) w' 67 83 A n c 0 0 underlying67;go_enter func271,ntmps271
 case' g5=>have hnil:=fun w'=>Lib.run_eql_slice_nil (P:=prog) w' 68 79 A n c 0 0 underlying68;go_enter func281,ntmps281
 case' g6=>have hnil:=fun w'=>Lib.run_eql_slice_nil (P:=prog) w' 45 66 A n c 0 0 underlying45;go_enter func66,ntmps66
 case' g7=>have hnil:=fun w'=>Lib.run_eql_slice_nil (P:=prog) w' 31 96 A n c 0 0 underlying31;go_enter func39,ntmps39
 case' g8=>have hnil:=fun w'=>Lib.run_eql_slice_nil (P:=prog) w' 76 93 A n c 0 0 underlying76;go_enter func59,ntmps59
 all_goals
  rcases A with _|ad
  ·have hz:xs=[]:=by
    rcases xs with _|⟨z,l⟩
    ·rfl
    ·obtain⟨_,_,h,_⟩:=cN.at_ (i:=0) bQ ah HR aF;cases h
   have KC:n=0:=by rw[HN.out,hz];rfl
   subst KC
   have HZ:=aa hz;clear hz
   go_wp2
   go_ret
   refine⟨none,0,rfl,aS _,?_,aj _⟩
   rw[HZ.out];exact aI.nil _ _ _ _ _
  ·go_wp2_with(at_builtin;first
    |refine cj _ rfl _ _ 36 rfl w.heap.size 200 2 16 (.agg #[oZ,oZ]) dR bQ fH underlying36 DZ rfl ah _ [] rfl (aI.empty _ _ _ _) (some ad) n c xs rfl HN.symm (cN.alloc HR _) ?c4 ?c5 ?c6 ?_
    |refine cj _ rfl _ _ 37 rfl w.heap.size 203 3 24 (.agg #[oZ,oZ,oZ]) dR bQ fH underlying37 Ic rfl ah _ [] rfl (aI.empty _ _ _ _) (some ad) n c xs rfl HN.symm (cN.alloc HR _) ?c4 ?c5 ?c6 ?_
    |refine cj _ rfl _ _ 40 rfl w.heap.size 110 3 24 (.agg #[oZ,oZ,oZ]) dR bQ fH underlying40 D1 rfl ah _ [] rfl (aI.empty _ _ _ _) (some ad) n c xs rfl HN.symm (cN.alloc HR _) ?c4 ?c5 ?c6 ?_
    |refine cj _ rfl _ _ 69 rfl w.heap.size 48 4 32 (.agg #[oZ,oZ,oZ,oZ]) dR bQ fH underlying69 sH rfl ah _ [] rfl (aI.empty _ _ _ _) (some ad) n c xs rfl HN.symm (cN.alloc HR _) ?c4 ?c5 ?c6 ?_
    |refine cj _ rfl _ _ 67 rfl w.heap.size 83 5 48 (.agg #[oZ,oZ,false,false,oN]) dR bQ fH underlying67 qm rfl ah _ [] rfl (aI.empty _ _ _ _) (some ad) n c xs rfl HN.symm (cN.alloc HR _) ?c4 ?c5 ?c6 ?_
    |refine cj _ rfl _ _ 68 rfl w.heap.size 79 4 48 (.agg #[false,oZ,oZ,oN]) dR bQ fH underlying68 qo rfl ah _ [] rfl (aI.empty _ _ _ _) (some ad) n c xs rfl HN.symm (cN.alloc HR _) ?c4 ?c5 ?c6 ?_
    |refine cj _ rfl _ _ 45 rfl w.heap.size 66 8 80 (.agg #[oZ,oZ,oZ,oZ,oZ,oZ,false,oN]) dR bQ fH underlying45 mR rfl ah _ [] rfl (aI.empty _ _ _ _) (some ad) n c xs rfl HN.symm (cN.alloc HR _) ?c4 ?c5 ?c6 ?_
    |refine cj _ rfl _ _ 31 rfl w.heap.size 96 3 40 (.agg #[oZ,oZ,oN]) dR bQ fH underlying31 vw rfl ah _ [] rfl (aI.empty _ _ _ _) (some ad) n c xs rfl HN.symm (cN.alloc HR _) ?c4 ?c5 ?c6 ?_
    |refine cj _ rfl _ _ 76 rfl w.heap.size 93 13 120 (.agg #[oZ,oZ,oZ,oZ,oZ,oZ,oZ,false,oN,oZ,oZ,oZ,oZ]) dR bQ fH underlying76 nK rfl ah _ [] rfl (aI.empty _ _ _ _) (some ad) n c xs rfl HN.symm (cN.alloc HR _) ?c4 ?c5 ?c6 ?_)
   case c4=>have:=HN.out;simp;omega
   case c5=>have:=HN.out;simp;omega
   case c6=>simp
   intro v' w2 hown' hgrow _
   have hb:=aI.br (aI.empty _ _ 1 (dR (m:=1))) (ak (aj _) _) hgrow aF (aS _)
   have eu:=aa hown';have bq:=aa hb
   clear hb hown' hgrow
   go_wp2
   go_ret
   obtain⟨B,d,hv,_⟩:=eu.rd
   have ho:=eu.out
   have hl':xs.length=n:=HN.symm
   rw[hl']at hv
   rw[hv]at ho
   exact⟨B,d,congrArg Ending.returned hv,ho.cap.2,ho,bq⟩
theorem D4(xs:List (Row 2))(hn:n=xs.length)(hl:n<=1000000)(hr:cN w dR A xs) :
 Calls prog 137 #[.slice A n c] w (eG 200 w xs n):=(nL w A c).1 xs hn hl hr
theorem Ie(xs:List (Row 3))(hn:n=xs.length)(hl:n<=1000000)(hr:cN w dR A xs) :
 Calls prog 138 #[.slice A n c] w (eG 203 w xs n):=(nL w A c).2.1 xs hn hl hr
theorem D5(xs:List (Row 3))(hn:n=xs.length)(hl:n<=1000000)(hr:cN w dR A xs) :
 Calls prog 96 #[.slice A n c] w (eG 110 w xs n):=(nL w A c).2.2.1 xs hn hl hr
theorem Ig(xs:List (Row 4))(hn:n=xs.length)(hl:n<=1000000)(hr:cN w dR A xs) :
 Calls prog 267 #[.slice A n c] w (eG 48 w xs n):=(nL w A c).2.2.2.1 xs hn hl hr
theorem D6(xs:List (Row 5))(hn:n=xs.length)(hl:n<=1000000)(hr:cN w dR A xs) :
 Calls prog 271 #[.slice A n c] w (eG 83 w xs n):=(nL w A c).2.2.2.2.1 xs hn hl hr
theorem D7(xs:List (Row 4))(hn:n=xs.length)(hl:n<=1000000)(hr:cN w dR A xs) :
 Calls prog 281 #[.slice A n c] w (eG 79 w xs n):=(nL w A c).2.2.2.2.2.1 xs hn hl hr
theorem vx(xs:List (Row 8))(hn:n=xs.length)(hl:n<=1000000)(hr:cN w dR A xs) :
 Calls prog 66 #[.slice A n c] w (eG 66 w xs n):=(nL w A c).2.2.2.2.2.2.1 xs hn hl hr
theorem D8(xs:List (Row 3))(hn:n=xs.length)(hl:n<=1000000)(hr:cN w dR A xs) :
 Calls prog 39 #[.slice A n c] w (eG 96 w xs n):=(nL w A c).2.2.2.2.2.2.2.1 xs hn hl hr
theorem D9(xs:List (Row 13))(hn:n=xs.length)(hl:n<=1000000)(hr:cN w dR A xs) :
 Calls prog 59 #[.slice A n c] w (eG 93 w xs n):=(nL w A c).2.2.2.2.2.2.2.2 xs hn hl hr
theorem fc:(prog.info? 3).map (fun i=>(i.zero,i.size,i.bytes))=some (some (.int .i64 0),1,8):=by kernel_rfl
theorem gq(xs:List Int)(hn:n=xs.length)(hl:n<=2000000)(hr:bC w .i64 A xs) :
 Calls prog 62 #[.slice A n c] w (Gf 3 .i64 w xs n):=by
 have HN:=aa hn;clear hn
 have HR:=aa hr;clear hr
 have hnil:=fun w'=>Lib.run_eql_slice_nil (P:=prog) w' 22 3 A n c 0 0 underlying22
 rcases A with _|ad
 ·have hz:=HR.nD;have KC:n=0:=by rw[HN.out,hz];rfl
  subst KC;have HZ:=aa hz;clear hz;go_enter func62,ntmps62;go_wp2;go_ret;refine⟨none,0,rfl,aS _,?_,aj _⟩;rw[HZ.out];exact aL.nil _ _ _ _
 ·have h0:aL (w.alloc (.cells #[] 3)) w.heap.size 3 .i64 (.slice w.heap.size 0 0) []:=aL.empty _ _ _;go_enter func62,ntmps62;go_wp2_with(at_builtin;refine cP _ rfl _ _ 22 rfl w.heap.size 3 .i64 underlying22 fc _ [] rfl h0 (some ad) n c xs rfl HN.symm (bC.alloc HR _) ?c4 ?c6 ?_)
  case c4=>have:=HN.out;simp;omega
  case c6=>simp
  exact Z4
theorem Ih:(prog.info? 44).map (fun i=>(i.zero,i.size,i.bytes))=some (some (.int .u64 0),1,8):=by kernel_rfl
theorem kR(xs:List Int)(hn:n=xs.length)(hl:n<=2000000)(hr:bC w .u64 A xs) :
 Calls prog 68 #[.slice A n c] w (Gf 44 .u64 w xs n):=by
 have HN:=aa hn;clear hn
 have HR:=aa hr;clear hr
 have hnil:=fun w'=>Lib.run_eql_slice_nil (P:=prog) w' 43 44 A n c 0 0 underlying43
 rcases A with _|ad
 ·have hz:=HR.nD;have KC:n=0:=by rw[HN.out,hz];rfl
  subst KC;have HZ:=aa hz;clear hz;go_enter func68,ntmps68;go_wp2;go_ret;refine⟨none,0,rfl,aS _,?_,aj _⟩;rw[HZ.out];exact aL.nil _ _ _ _
 ·have h0:aL (w.alloc (.cells #[] 44)) w.heap.size 44 .u64 (.slice w.heap.size 0 0) []:=aL.empty _ _ _;go_enter func68,ntmps68;go_wp2_with(at_builtin;refine cP _ rfl _ _ 43 rfl w.heap.size 44 .u64 underlying43 Ih _ [] rfl h0 (some ad) n c xs rfl HN.symm (bC.alloc HR _) ?c4 ?c6 ?_)
  case c4=>have:=HN.out;simp;omega
  case c6=>simp
  exact Z4
end
theorem jF.Ea{Q:qN α}(h:jF m Q w S A xs):∃rows:List (Row m),rows.length=xs.length/\cN w dR A rows/\(∀(i:Nat) (r:Row m) (x:α),rows[i]?=some r->xs[i]?=some x->Q w S r.val x):=h
theorem eG.Z5{E:TypeId}{Q:qN α}(g:Good Q){rows:List (Row m)}(hs:∀b,S b->b<w.heap.size)(h1:rows.length=xs.length)(h3:∀(i:Nat) (r:Row m) (x:α),rows[i]?=some r->xs[i]?=some x->Q w S r.val x){e:Ending}(h:eG E w rows n e w'):Qx E m Q w S xs n e w':=by obtain⟨B,d,a,b,c,k⟩:=h;exact⟨B,d,a,b,⟨rows,h1,c,fun i r x p q=>g.same (fun b hb=>k.block b (hs b hb)) (h3 i r x p q)⟩,k⟩
section
variable(w:World) (A B:Option Addr) (c d:Nat)
theorem Lp(xs ys:List Int)(hl:xs.length<=17592186044416)(hl':ys.length<=17592186044416)(ha:bC w .u64 A xs)(hb:bC w .u64 B ys) :
 Calls prog 206 #[.slice A xs.length c,.slice B ys.length d] w fun e w'=>e=.returned (xs==ys)/\w=w':=by
 obtain⟨n,hn⟩:=aD xs.length
 obtain⟨m,hm⟩:=aD ys.length
 rw[<-hn]at hl ⊢
 rw[<-hm]at hl' ⊢
 by_cases YG:n=m
 ·subst YG;have HN:=aa hn;clear hn;have HM:=aa hm;clear hm;have HA:=aa ha;clear ha;have HB:=aa hb;clear hb;go_enter func206,ntmps206;go_wp2;go_loop[14] (fun i=>∃k:Nat,k<=n/\i=k/\Hid (∀j x y,j<k->xs[j]?=some x->ys[j]?=some y->x=y)) (fun i=>n-(intOf i).toNat);case atStart=>exact⟨0,aY _,rfl,fun j x y hj=>by omega⟩
  case round =>
   obtain⟨k,hk,rfl,HS⟩:=hrel;by_cases hlt:k<n
   ·obtain⟨ad,x,hA,hx,hc⟩:=bC.at_ HA (by rw[<-HN.out];exact hlt);obtain⟨bd,y,hB,hy,hd⟩:=bC.at_ HB (by rw[<-HM.out];exact hlt);subst hA;subst hB;have HX:=aa hx;clear hx;have HY:=aa hy;clear hy;by_cases fM:x=y
    ·subst fM;go_wp2;go_round;case rel =>
      refine⟨k+1,ae,by go_num,fun j x' y' hj yB hy'=>?_⟩;by_cases hjk:j=k
      ·subst hjk;have h1:=HX.symm.trans yB;have h2:=HY.symm.trans hy';simp only[Option.some.injEq]at h1 h2;rw[<-h1, <-h2]
      ·exact HS.out j x' y' ae yB hy'
     case measure=>simp[intOf];omega
    ·have oy:(y !=x)=true:=by simpa using fun h=>fM h.symm
     have HXY:=aa fM;clear fM;go_wp2;go_ret;refine⟨bS ?_,rfl⟩;symm;rw[cq];rintro rfl;have:=HX.symm.trans HY;simp only[Option.some.injEq]at this;exact HXY.out this
   ·go_wp2;go_ret;refine⟨bS ?_,rfl⟩;symm;rw[beq_iff_eq];exact Bf HN HM hlt HS
 ·have hne:((n:Int) !=(m:Int))=true:=by simp;omega
  go_enter func206,ntmps206;go_wp2;go_ret;refine⟨bS ?_,rfl⟩;symm;rw[cq];rintro rfl;omega
end
def oH(x:Int×Int×Int):Int:=x.1+x.2.1*256+x.2.2*4294967296
def n9(ki ar va:Int)(df:Bool)(n:Int):Int:=ki+n*256+(if df=true then 4096 else 0)+ar*65536+va*4294967296
def kf(ki ar va:Int)(df:Bool)(cs:List (Int×Int×Int))(ph:Int):List Int:=if bt ki ar va cs=true/\fT ph 4294967296=true then n9 ki ar va df cs.length::(cs.map oH++List.replicate (3-cs.length) 0++[ph])else[]
theorem Qz(d h v:Int)(b1:1<=d)(b2:d<=2)(b3:0<=h)(b4:h<65536)(b5:0<=v)(b6:v<4294967296) :
 bits BinOp.or IntKind.u64 (bits BinOp.or IntKind.u64 d (h*256)) (v*4294967296)=oH (d,h,v):=by
 rw[lj 8 d (h*256) ae ae ae ae ae ae,
  lj 32 _ (v*4294967296) ae ae ae ae ae ae]
 rfl
theorem Gg(ki ar va n:Int)(b1:1<=ki)(b2:ki<=9)(b3:0<=ar)(b4:ar<65536)(b5:0<=va)(b6:va<4294967296)(b7:0<=n)(b8:n<=3) :
 bits BinOp.or IntKind.u64 (bits BinOp.or IntKind.u64 (bits BinOp.or IntKind.u64 ki (n*256)) (ar*65536)) (va*4294967296)=n9 ki ar va false n:=by
 rw[lj 8 ki (n*256) ae ae ae ae ae ae,
  lj 16 _ (ar*65536) ae ae ae ae ae ae,
  lj 32 _ (va*4294967296) ae ae ae ae ae ae]
 simp[n9]
theorem QA(ki ar va n:Int)(b1:1<=ki)(b2:ki<=9)(b3:0<=ar)(b4:ar<65536)(b5:0<=va)(b6:va<4294967296)(b7:0<=n)(b8:n<=3) :
 bits BinOp.or IntKind.u64 (n9 ki ar va false n) 4096=n9 ki ar va true n:=by
 have e:n9 ki ar va false n=(ki+n*256)+(ar+va*65536)*65536:=by simp[n9];omega
 have l1:bits BinOp.or IntKind.u64 (ki+n*256) ((ar+va*65536)*65536)=n9 ki ar va false n:=by rw[lj 16 _ _ ae ae ae ae ae ae,e]
 have l2:bits BinOp.or IntKind.u64 (ki+n*256) 4096=ki+n*256+4096:=lj 12 _ _ ae ae ae ae ae ae
 have l3:bits BinOp.or IntKind.u64 (ki+n*256+4096) ((ar+va*65536)*65536)=n9 ki ar va true n:=by rw[lj 16 _ _ ae ae ae ae ae ae];simp[n9];omega
 have c1:bits BinOp.or IntKind.u64 (bits BinOp.or IntKind.u64 (ki+n*256) ((ar+va*65536)*65536)) 4096=bits BinOp.or IntKind.u64 (bits BinOp.or IntKind.u64 (ki+n*256) 4096) ((ar+va*65536)*65536):=by
  obtain⟨x,hx⟩:=Int.eq_ofNat_of_zero_le (show 0<=ki+n*256 by omega);obtain⟨y,hy⟩:=Int.eq_ofNat_of_zero_le (show 0<=(ar+va*65536)*65536 by omega);have hx1:x<2 ^ 64:=ae;have KA:y<2 ^ 64:=ae;rw[hx,hy];have o1:=u64_or_nat x y ae ae;have o2:=u64_or_nat x 4096 ae ae;have n1:x ||| y<2 ^ 64:=Nat.or_lt_two_pow hx1 KA
  have n2:x ||| 4096<2 ^ 64:=Nat.or_lt_two_pow hx1 ae
  have o3:=u64_or_nat (x ||| y) 4096 ae ae;have o4:=u64_or_nat (x ||| 4096) y ae ae;have e1:((4096:Nat):Int)=4096:=rfl;rw[e1]at o2 o3;rw[o1,o2,o3,o4,Nat.or_assoc,Nat.or_assoc,Nat.or_comm y 4096]
 rw[<-l1,c1,l2,l3]
def lenOf:Value->Nat|.slice _ n _=>n|_=>0
theorem aL.len{k:IntKind}{c:Nat}(h:aL w base e k (.slice A n c) zs):n=zs.length:=by obtain⟨A',c',hv,_⟩:=h.rd;injection hv
def sI(zs:List Int)(w:World)(e:Ending)(w':World):Prop:=∃B d,e=.returned (.slice B zs.length d)/\aL w' w.heap.size 44 .u64 (.slice B zs.length d) zs/\Below w w w'
theorem aL.QB{a:World}(h:aL w base 44 .u64 v zs)(hb:Below a a w)(hs:a.heap.size<=base):sI zs a (.returned v) w:=by obtain⟨B,d,rfl⟩:=h.shape;exact⟨B,d,rfl,h.weak hs,hb⟩
theorem sI.J{e:Ending}(h:sI zs w e w'):Ql .u64 zs w e w':=by obtain⟨B,d,rfl,ho,hb⟩:=h;exact ho.acu hb
section
variable(w:World) (ki ar va:Int) (df:Bool) (A:Option Addr) (c:Nat) (cs:List (Int×Int×Int)) (ph:Int)
theorem vy(hl:cs.length<=9223372036854775807)(hr:cN w bk A cs) :
 Calls prog 172 #[.agg #[ki,ar,va,df,.slice A cs.length c],ph] w (sI (kf ki ar va df cs ph) w):=by
 have HR:=aa hr;clear hr
 have HL:=aa hl;clear hl
 rcases h1:bt ki ar va cs with _|_
 ·have hq:kf ki ar va df cs ph=[]:=by unfold kf;rw[ai];simp[h1]
  have H1:=aa h1;have HQ:=aa hq;clear h1 hq;go_enter func172,ntmps172;go_wp2_with fail;refine(lq _ ki ar va df A c cs HL (HR.alloc _)).mono ?_;rw[H1.out];rintro e w1 ⟨rfl,hb1⟩;exact TA
 rcases h2:fT ph 4294967296 with _|_
 ·have hq:kf ki ar va df cs ph=[]:=by unfold kf;rw[ai];simp[h2]
  have H1:=aa h1;have H2:=aa h2;have HQ:=aa hq;clear h1 h2 hq;go_enter func172,ntmps172;go_wp2_with fail;refine(lq _ ki ar va df A c cs HL (HR.alloc _)).mono ?_;rw[H1.out];rintro e w1 ⟨rfl,hb1⟩;have hc:∀i,w1.cell? ⟨w.heap.size,i,none⟩=_:=fun i=>hb1.cell (p:=⟨w.heap.size,i,none⟩) aF;go_wp2_with fail;refine(sF _ _).mono ?_;rw[H2.out];rintro e w' ⟨rfl,rfl⟩;exact TA
 have hq:kf ki ar va df cs ph=n9 ki ar va df cs.length::(cs.map oH++List.replicate (3-cs.length) 0++[ph]):=by unfold kf;rw[au ⟨h1,h2⟩]
 have hf:=h1
 simp only[bt,fT,dI,cU]at hf
 obtain⟨⟨⟨⟨⟨k1,k2⟩,k3,k4⟩,k5,k6⟩,k7⟩,k8⟩:=hf
 have hp:=h2
 simp only[fT,cU]at hp
 obtain⟨p1,p2⟩:=hp
 have HM:=aa k8;clear k8
 have H1:=aa h1;have H2:=aa h2;have HQ:=aa hq;clear h1 h2 hq
 obtain⟨n,hn⟩:=aD cs.length
 have HF:=aa (lq (w.alloc (.cells #[ki,ar,va,df,.slice A cs.length c] 42)) ki ar va df A c cs HL (HR.alloc _))
 rw[H1.out, <-hn]at HF
 rw[<-hn]at k7
 rw[<-hn]
 have HN:=aa hn;clear hn
 cases df
 all_goals
  go_enter func172,ntmps172;go_wp2_with fail;refine HF.mono ?_;rintro e w1 ⟨rfl,hb1⟩;have hc:∀i,w1.cell? ⟨w.heap.size,i,none⟩=_:=fun i=>hb1.cell (p:=⟨w.heap.size,i,none⟩) aF;have QC:=ag (ak (aj _) _) hb1;have hz:w.heap.size<w1.heap.size:=by have:=hb1.size;simp at this;omega
  go_wp2_with fail;refine(sF _ _).mono ?_;rw[H2.out];rintro e w' ⟨rfl,rfl⟩;go_wp2_with fail;go_loopw[6,45] (fun o i wr=>∃(k:Nat) (L:List Int),k<=n/\i=k/\Hid (aL wr w1.heap.size 44 .u64 o L)/\L.length=k+1/\Hid (L=n9 ki ar va _ n::(cs.take k).map oH)/\Below w w wr/\w1.heap.size<=wr.heap.size) (fun _ i _=>n-(intOf i).toNat);case atStart =>
   refine⟨0,_,aY _,rfl,aL.lit w1 _ _ [_] aF,rfl,?_,ak QC _,aF⟩;first
    |exact(show[_]=_ by rw[Gg ki ar va n k1 k2 k3 k4 k5 k6 ae ae,QA ki ar va n k1 k2 k3 k4 k5 k6 ae ae];rfl)
    |exact(show[_]=_ by rw[Gg ki ar va n k1 k2 k3 k4 k5 k6 ae ae];rfl)
  case round =>
   obtain⟨k,L,hk,rfl,HO,lu,Eb,hb,kI⟩:=hrel;have hz2:w.heap.size<wr.heap.size:=ae;by_cases hlt:k<n
   ·obtain⟨ad,d,hd,v,hA,hx,hc0,hc1,hc2⟩:=Ge (HR.below hb) (i:=k) (by rw[<-HN.out];exact hlt);subst hA;have hm:=List.all_eq_true.1 HM _ (dO hx);simp only[mL,DX,fT,dI,Bool.or_eq_true,beq_iff_eq,cU]at hm;obtain⟨⟨m1,m2,m3⟩,m4,m5⟩:=hm;have m6:1<=d:=ae;have m7:d<=2:=ae;have HX:=aa hx;clear hx m1;have hsz:=hb.size;go_wp2_with(at_builtin;refine cP _ rfl _ _ 43 rfl w1.heap.size 44 .u64 underlying43 gg _ L rfl ((HO.alloc _).alloc _) (some ⟨wr.heap.size+1,0,none⟩) 1 1 [oH (d,hd,v)] rfl rfl ?c3 ?c4 ?c5 ?_)
    case c3=>rw[<-Qz d hd v m6 m7 m2 m3 m4 m5];exact bC.Tr _ _ _ _ aF
    case c4=>simp;omega
    case c5=>simp;omega
    intro v' w2 hown' hgrow _;have hb':=((HO.alloc _).alloc _).br (ak (ak hb _) _) hgrow (by simp;omega) ae;have zH:=hgrow.size;have hw2:w1.heap.size<=w2.heap.size:=by simp at zH;omega
    have zI:=aa hown';clear hown' hgrow zH;go_wp2_with fail;go_roundw;case rel=>exact⟨k+1,_,ae,by go_num,zI,by simp;omega,by rw[Hid,Eb.out,fz HX.out];simp,hb',hw2⟩
    case measure=>simp[intOf];omega
   ·have qp:k=n:=ae;subst qp;have Br:=qY HN (aS _);have hLL:=Eb.out;rw[Br]at hLL;have AJ:=aa hLL;clear hLL Br Eb;go_wp2_with fail;go_loopw[6] (fun o wr=>∃(j:Nat) (M:List Int),Hid (aL wr w1.heap.size 44 .u64 o M)/\M.length=k+1+j/\k+j<=3/\Hid (M=L++List.replicate j 0)/\Below w w wr/\w1.heap.size<=wr.heap.size) (fun o _=>4-lenOf o);case atStart=>exact⟨0,L,HO,ae,ae,by simp[Hid],hb,kI⟩
    case round =>
     obtain⟨j,M,eu,Lq,hj,Pw,hb2,hw3⟩:=hrel;obtain⟨A3,c3,hv3⟩:=eu.shape;rw[Lq]at hv3;subst hv3;have hz3:w.heap.size<wr.heap.size:=ae;have Lr:=hb2.size;by_cases hj3:k+j<3
     ·go_wp2_with(at_builtin;refine cP _ rfl _ _ 43 rfl w1.heap.size 44 .u64 underlying43 gg _ M rfl (eu.alloc _) wr.heap.size 1 1 [0] rfl rfl (bC.one _ _ _ _) ?c6 ?c7 ?_)
      case c6=>simp;omega
      case c7=>simp;omega
      intro v' w2 hown' hgrow _;have hb':=(eu.alloc _).br (ak hb2 _) hgrow (by simp;omega) ae;have zH:=hgrow.size;have hw2:w1.heap.size<=w2.heap.size:=by simp at zH;omega
      have yD:(M++[0]).length=k+1+(j+1):=by simp;omega
      obtain⟨A4,c4,hv4⟩:=hown'.shape;have zI:=aa hown';clear hown' hgrow zH;go_wp2_with fail;go_roundw;case rel=>exact⟨j+1,_,zI,yD,ae,by rw[Hid,Pw.out,List.append_assoc,List.replicate_succ'],hb',hw2⟩
      case measure=>rw[yD]at hv4;simp[hv4,lenOf];omega
     ·have hj4:j=3-k:=ae;subst hj4;go_wp2_with(at_builtin;refine cP _ rfl _ _ 43 rfl w1.heap.size 44 .u64 underlying43 gg _ M rfl (eu.alloc _) wr.heap.size 1 1 [ph] rfl rfl (bC.one _ _ _ _) ?c8 ?c9 ?_)
      case c8=>simp;omega
      case c9=>simp;omega
      intro v' w2 hown' hgrow _;have hb':=(eu.alloc _).br (ak hb2 _) hgrow (by simp;omega) ae;have zI:=aa hown';clear hown' hgrow;go_wp2_with fail;go_ret;have mS:=zI.QB hb' ae;have lO:=HQ.out;rw[<-HN.out]at lO;rw[Pw.out,AJ.out]at mS;rw[lO];simpa using mS
end
section
variable(w:World)
theorem oM(g:Nat)(a:Addr)(n c:Nat)(hc:w.cell? ⟨g,0,none⟩=some (.slice (some a) n c)) :
 Calls prog 72 #[.pointer g] w fun e w'=>e=.returned true/\w=w':=by
 have hn:=fun wx=>run_neq_slice_nil_any (P:=prog) wx 43 44 (some a) n c 0 0 underlying43
 exact acw
theorem QD(n:Int)(h0:1<=n)(h1:n<=1048576) :
 Calls prog 100 #[n] w fun e w'=>(∃g,e=.returned (.pointer (some ⟨g,0,none⟩))/\Ga w' w.heap.size g (List.replicate n.toNat 0) [] [] false)/\Below w w w':=by
 obtain⟨m,rfl⟩:=Int.eq_ofNat_of_zero_le (show 0<=n by omega)
 have hm:m<=1048576:=ae
 have hb1:decide ((m:Int)<1)=false:=bJ ae
 have hb2:decide (1048576<(m:Int))=false:=bJ ae
 have hb3:(m==0)=false:=by rw[cq];omega
 have hb4:decide (1048576<m)=false:=bJ ae
 go_enter func100,ntmps100
 go_wp2_with(at_make;refine zx _ rfl _ _ 43 rfl w.heap.size 44 .u64 underlying43 gg _ _ _ _ m rfl rfl rfl rfl ae (aS _) ?_)
 intro w1 ho hb
 have HO:=aa ho;have HB:=aa hb
 clear ho hb
 go_wp2
 go_ret
 refine⟨⟨w1.heap.size,rfl,.slice w.heap.size m m,oN,oN,?_⟩,ak HB _⟩
 refine⟨af.new _ _ _,?_,aI.nil _ _ _ _ _,aL.nil _ _ _ _,HB.size⟩
 rw[fF]
 exact HO.alloc _
theorem Ls{C:List Int}:(C++List.replicate j (0:Int))++[0]=C++List.replicate (j+1) 0:=by rw[List.append_assoc, <-List.replicate_succ']
theorem Ii(base g:Nat)(vl vg vc:Value)(L:List Int)(G:List Acc)(C:List Int)(kp:Bool)(t:Int)(h:dD w base g vl vg vc L G C kp)(hC:C.length<=64) :
 Calls prog 239 #[.pointer g,t] w fun e w'=>e=.returned (.tuple #[])/\(∃sA,dD w' base g vl vg sA L G (iv C t) kp/\∀b,sA.ownBlock=some b->vc.ownBlock=some b\/w.heap.size<=b)/\Rest w w' g vl vg vc/\Below base w w':=by
 by_cases r8:t<0
 ·go_enter func239,ntmps239;go_wp2;refine bodyPost_ret (v:=.tuple #[]) (by simp[results,results239,go_sem]) rfl ⟨rfl,⟨vc,?_,fun b hb=>.inl hb⟩,Rest.refl _ _ _ _ _,Below.refl _ _⟩;rw[show iv C t=C by unfold iv;rw[au (.inl r8)]];exact h
 by_cases tQ:64<=t
 ·go_enter func239,ntmps239;go_wp2;refine bodyPost_ret (v:=.tuple #[]) (by simp[results,results239,go_sem]) rfl ⟨rfl,⟨vc,?_,fun b hb=>.inl hb⟩,Rest.refl _ _ _ _ _,Below.refl _ _⟩;rw[show iv C t=C by unfold iv;rw[au (.inr tQ)]];exact h
 obtain⟨k,rfl⟩:=Int.eq_ofNat_of_zero_le (show 0<=t by omega)
 have hk:k<64:=ae
 have kS:decide ((k:Int)<0)=false:=bJ ae
 have htb:decide (64<=(k:Int))=false:=bJ ae
 have htc:decide (64<=k)=false:=bJ ae
 have H:=aa h;have HC:=aa hC
 have hsz:base<=w.heap.size:=bm h.low (Nat.le_of_lt h.blk.lt)
 clear h hC r8 tQ
 go_enter func239,ntmps239
 go_wp2_with fail
 go_loopg [] (k+1-C.length) (fun q wr=>∃(A:Option Addr) (n c:Nat) (D:List Int),n=C.length+(k+1-C.length-q)/\q<=k+1-C.length/\Hid (D=C++List.replicate (k+1-C.length-q) 0)/\Hid (dD wr base g vl vg (.slice A n c) L G D kp) /\
  Hid (∀b,(Value.slice A n c).ownBlock=some b->vc.ownBlock=some b\/w.heap.size<=b)/\Hid (Rest w wr g vl vg vc)/\Hid (Below base w wr))
 case atStart=>obtain⟨A,c,rfl⟩:=aL.shape H.counts;exact⟨A,C.length,c,C,ae,aS _,by simp[Hid],H,fun b hb=>.inl hb,Rest.refl _ _ _ _ _,Below.refl _ _⟩
 case round =>
  obtain⟨A,n,c,D,hn,hq,HD,HM,HA,HR,HB⟩:=hrel;have hDn:n=D.length:=HM.counts.cap.1;have lO:=HC.out;have hcell:∀i,wr.cell? ⟨g,i,none⟩=_:=fun i=>af.cell HM.blk i;have Gh:∀i,wr.frozen? ⟨g,i,none⟩=false:=fun i=>af.free HM.blk i;have hsr:=HB.size;have TC:=HM.blk.lt;by_cases hlt:n<=k
  ·have Ij:0<gk:=ae;have hnk:(n:Int)<=(k:Int):=ae;have HN:=aa hn;have HQ:=aa hq;have AK:=aa hDn;clear hn hq hlt hDn;go_wp2_with(at_builtin;refine cP _ rfl _ _ 22 rfl base 3 .i64 underlying22 Bh _ D rfl (HM.counts.alloc _) wr.heap.size 1 1 [0] rfl rfl ?c1 ?c2 ?c3 ?_)
   case c1=>exact bC.one _ .i64 _ _
   case c2=>have:=HN.out;have:=HQ.out;have:=AK.out;simp;omega
   case c3=>simp;omega
   intro v' w2 hown' hgrow hat;have VM:=HM.alloc (.cells #[oZ] 3);have AL:=VM.DR hown' hgrow;have hBk:=VM.blk.grown hgrow (aV VM.counts VM.blk ah);obtain⟨A2,c2,rfl⟩:=hown'.shape;have hb2:=VM.counts.br (HB.alloc ae _) hgrow (by simp;omega) (aS _);have acx:∀i,w2.cell? ⟨g,i,none⟩=_:=fun i=>af.cell hBk i;have acy:∀i,w2.frozen? ⟨g,i,none⟩=false:=fun i=>af.free hBk i;have hA2:∀b,(Value.slice A2 (D++[0]).length c2).ownBlock=some b->vc.ownBlock=some b\/w.heap.size<=b:=by
    intro b hb;rcases hat with h1|h1
    ·exact HA.out b (h1.symm.trans hb)
    ·rw[h1]at hb;injection hb with hb;(try simp at hb);exact .inr ae
   have QE:Rest w (w2.setCell ⟨g,2,none⟩ (.slice A2 (D++[0]).length c2)) g vl vg vc:=by
    intro b hb h0 h1 h2 h3;rw[dp _ _ _ _ h0];have hne:some b≠(Value.slice A n c).ownBlock:=by
     intro he;rcases HA.out b he.symm with h|h
     ·exact h3 h
     ·omega
    have hbl:b<(wr.alloc (.cells #[oZ] 3)).heap.size:=by simp;omega
    rw[hgrow.block b hbl hne,Below.heap_alloc _ _ _ ae];exact HR.out b hb h0 h1 h2 h3
   have hb3:=hb2.setCell (p:=⟨g,2,none⟩) H.low (.slice A2 (D++[0]).length c2);have hlen:(D++[0]).length=n+1:=by have:=AK.out;simp;omega
   rw[hlen]at AL hA2 QE hb3;have sJ:=aa AL;have Z6:=aa hA2;have g9:=aa QE;have bq:=aa hb3;have HLEN:=aa hlen;have hg2:g<w2.heap.size:=by have:=hgrow.size;simp at this;omega
   rw[hlen];clear AL hA2 QE hb3 hlen hown' hgrow hat hb2 hcell Gh VM hBk;go_wp2_with fail;go_roundg (gk-1);case measure=>omega
   case rel=>refine⟨A2,n+1,c2,D++[0],by have:=HN.out;have:=HQ.out;omega,by have:=HQ.out;omega,?_,sJ,Z6,g9,bq⟩;show D++[0]=_;rw[HD.out,Ls,show k+1-C.length-gk+1=k+1-C.length-(gk-1)by have:=HQ.out;omega]
  ·have hDe:D=C++List.replicate (k+1-C.length) 0:=by
    rw[HD.out];congr 2;omega
   obtain⟨z,hz⟩:∃z,D[k]?=some z:=⟨_,cD ae⟩
   have hnz:D≠[]:=by rintro rfl;simp at hz
   obtain⟨gc,c9,Ik,gH,hgc2⟩:=HM.counts.form hnz
   injection Ik with e1 e2 e3
   have hA:=e1;have hcc:=e3
   subst hA;subst hcc
   have eO:=HM.counts.cell hz
   have hfz:=HM.counts.frozen k
   have hnk:¬(n:Int)<=(k:Int):=ae
   have qp:(k:Int)<(n:Int):=ae
   have Z7:iv C (k:Int)=D.set k (wrap64 (z+1)):=by unfold iv;rw[ai ae,fF, <-hDe];simp[hz]
   have Px:=aa Z7;have HDE:=aa hDe;have HZ:=aa hz
   clear Z7 hDe hz hnz hDn hn hq hlt e2
   go_wp2_with fail
   go_end0
   refine⟨rfl,⟨.slice gc n c,?_,HA⟩,?_,HB.setCell (p:=⟨gc,k,none⟩) gH _⟩
   ·rw[Px.out];have hm:=HM.out;refine⟨hm.blk.far ?_ _,cG hm.words (fun b hb he=>?_) _,cG hm.log (fun b hb he=>?_) _,hm.counts.stored k _,hm.low⟩
    ·intro he;exact aV hm.counts hm.blk ah (congrArg some he)
    ·exact cR hm.words hm.counts ah hb (congrArg some he)
    ·exact cR hm.log hm.counts ah hb (congrArg some he)
   ·intro b hb h0 h1 h2 h3;rw[dp _ _ _ _ ?_]
    ·exact HR.out b hb h0 h1 h2 h3
    ·rintro rfl;rcases HA.out _ rfl with h|h
     ·exact h3 h
     ·exact absurd hb (Nat.not_lt.2 h)
end
end Go.Proofs.YtjcjjiieblineaaGreat
