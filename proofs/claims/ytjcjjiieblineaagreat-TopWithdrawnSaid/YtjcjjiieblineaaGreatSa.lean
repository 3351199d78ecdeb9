/- Walks and plain facts. No condition. -/
import Derived.BigQuiet
import Derived.Deep.LoopGhost
import Derived.Deep.QuietTactic
import Derived.Maps.AppendAt
import Derived.Test.YtjcjjiieblineaaGreatRows
import Derived.WalkKit
import Derived.WalkLawsBesides
import Derived.WalkSpells
namespace Go.Proofs.YtjcjjiieblineaaGreat
open Go.RowKit Go.Proofs.Tryz
set_option maxHeartbeats 8000000
set_option maxRecDepth 100000
set_option linter.all false
instance:Coe Int Value:=⟨.int .i64⟩
instance:Coe Nat Value:=⟨fun n=>.int .i64 n⟩
instance:Coe Bool Value:=⟨.bool⟩
instance:Coe Nat Addr:=⟨fun g=>⟨g,0,none⟩⟩
instance:Coe World Nat:=⟨fun w=>w.heap.size⟩
inductive ZV|a|b
def oZ:=ZV.a
def oN:=ZV.b
instance:CoeDep ZV oZ Value:=⟨.int .i64 0⟩
instance:CoeDep ZV oN Value:=⟨.slice none 0 0⟩
abbrev VL:=List Value
abbrev VA:=Array Value
def aS:=@Nat.le_refl
def bF:=@Nat.lt_of_lt_of_le
def cD:=@List.getElem?_eq_getElem
def aY:=@Nat.zero_le
def bm:=@Nat.le_trans
def eR:=@List.getD_eq_getElem?_getD
def bK:=@IntWalk.i64_in
def dp:=@Below.heap_setCell
def dI:=@Bool.and_eq_true
def eN:=@List.length_append
def dO:=@List.mem_of_getElem?
def cK:=@List.length_set
def bU:=@Nat.le_succ
def bW:=@Int.le_refl
def gf:=@List.length_replicate
def gC:=@List.length_singleton
def eW:=@List.length_take
def eK:=@List.length_map
def fF:=@Int.toNat_natCast
def ai:=@if_neg
def au:=@if_pos
def bJ:=@decide_eq_false
def dg:=@decide_eq_true
def cq:=@beq_eq_false_iff_ne
def cU:=@decide_eq_true_eq
def bO:=@below_drewN
def ig:=@IntKind.wrap_u64
def gm:=@List.length_drop
def jx:=@List.size_toArray
def gO:=@Int.mul_nonneg
theorem YD{P:Prop}(h:P:=by
 go_wp2_with fail;go_ret;rw[Li HN.out hlt HX.out];exact⟨rfl,HB.out⟩):P:=h
theorem ZX{P:Prop}(h:P:=by
 have HP:=aa hp;rw[hp]at HC;clear hp;go_wp2_with fail;refine HC.out.mono ?_;rintro e w1 ⟨rfl,hb1⟩;have bj:=aa (ag HB.out hb1);clear hb1;go_wp2_with fail;go_roundw;case rel=>exact⟨k+1,by omega,by go_num,bj,rh HZ.out HX.out HP.out⟩
 case measure=>simp[intOf];omega):P:=h
theorem ZY{P:Prop}(h:P:=by
 have HP:=aa hp;rw[hp]at HC;clear hp;go_wp2_with fail;refine HC.out.mono ?_;rintro e w1 ⟨rfl,hb1⟩;have bj:=aa (ag HB.out hb1);clear hb1;go_wp2_with fail;go_ret;rw[zG HZ.out HX.out HP.out];exact⟨rfl,bj.out⟩):P:=h
theorem Qp{P:Prop}(h:P:=by
 go_enter func118,ntmps118;go_wp2;all_goals go_ret
 all_goals exact⟨bS (by rw[Bool.eq_iff_iff];simp[fT]<;>omega),rfl⟩):P:=h
theorem Qt{P:Prop}(h:P:=by
 rintro e w' ⟨rfl,rfl⟩;go_wp2_with fail;go_ret;exact⟨rfl,rfl⟩):P:=h
theorem VY{P:Prop}(h:P:=by
 exact go_ok h hw rfl hw (by dsimp only;omega) (hm (by dsimp only;omega)) (hb (by dsimp only;omega)) hk.i0 hk.j0 rfl rfl):P:=h
theorem acw{P:Prop}(h:P:=by
 go_enter func72,ntmps72;go_wp2;go_ret;exact⟨rfl,rfl⟩):P:=h
theorem VK{P:Prop}(h:P:=by
 obtain⟨A',c',hv,hr⟩:=h.rd;injection hv with e1 e2 e3
 subst e1;subst e2;subst e3;exact⟨rfl,hr⟩):P:=h
theorem VW{P:Prop}(h:P:=by
 exact go_ok h hw rfl hw (by dsimp only;omega) (fun _ _=>ho) (fun _ _=>hb) (bW _) hk.j0 rfl rfl):P:=h
theorem VC{P:Prop}(h:P:=by
 rcases h.2 with⟨h',_⟩|⟨g',cap',cur,h',_⟩
 ·cases h'
 ·injection h'):P:=h
theorem VN{P:Prop}(h:P:=by
 exact⟨hx,hl,rfl,ly (by decide),fun z hz=>by cases hz⟩):P:=h
theorem ZN{P:Prop}(h:P:=by
 clear d1;go_enter func154,ntmps154;go_wp2_with fail;refine YC.out.mono ?_;rintro e w1 ⟨rfl,hb⟩;obtain⟨k0,k1,kb⟩:=ZM.out w1 (hb.mono (by simp));obtain⟨hc0,hf0,hz0⟩:=af.aK k0;have hc1:=fun i=>af.cell k1 i;go_wp2_with fail;obtain⟨Bl,AH⟩:=Gc rfl kb k0 (.int .i64 0) (.int .i64 0);generalize((w1.setCell ⟨w.heap.size,0,none⟩ (.int .i64 0)).setCell ⟨w.heap.size,1,none⟩ (.int .i64 0))=wf at Bl AH ⊢;have l7:=fun i=>af.cell Bl i;refine bodyPost_ret (v:=.tuple #[.agg #[.int .i64 0,.int .i64 0],.bool false]) ?_ rfl ?_
 ·simp[results,results154,go_sem,l7]
 ·rw[HR.out,au HQ.out];exact⟨rfl,AH⟩):P:=h
theorem aag{P:Prop}(h:P:=by
 by_cases hv:r.gF=true
 ·rw[au hv];by_cases hn:r.note≠0
  ·rw[au hn];split
   ·exact key _ rfl rfl rfl (by simp[hv])
   ·exact key _ rfl rfl rfl (by simp[hv])
  ·rw[ai hn];split
   ·exact key _ rfl rfl rfl (by simp[hv])
   ·exact key _ rfl rfl rfl (by simp[hv])
 ·rw[ai hv];by_cases hn:r.note≠0
  ·rw[au hn];split
   ·exact key _ rfl rfl rfl (by simp[hv])
   ·exact key _ rfl rfl rfl (by simp[hv])
  ·rw[ai hn];split
   ·exact key _ rfl rfl rfl (by simp[hv])
   ·exact key _ rfl rfl rfl (by simp[hv])):P:=h
theorem Z0{P:Prop}(h:P:=by
 have d2:(c.chans==0)=true:=by simpa using h2
 have d3:(c.ba==0)=true:=by simpa using h3
 have KC:n=0:=by rw[hn,h4];rfl
 subst KC;have HI:=aa (mo (w.alloc (cr c A 0 k)) c.cap 1 16 h1);clear hk h1 h2 h3 h4 hn hr hc;go_enter func193,ntmps193;go_wp2_with fail;refine HI.out.mono ?_;rintro e w' ⟨rfl,rfl⟩;go_wp2_with fail;go_ret;exact⟨rfl,ak (aj w) _⟩):P:=h
theorem ZW{P:Prop}(h:P:=by
 have HQ:=aa hq;have H3:=aa h3;have H4:=aa h4;clear hq h3 h4 hk;go_enter func77,ntmps77;go_wp2_with fail;refine(zE _ _).mono ?_;rw[H3.out];rintro e w' ⟨rfl,rfl⟩;go_wp2_with fail;refine(sF _ _).mono ?_;rw[H4.out];rintro e w' ⟨rfl,rfl⟩;go_wp2_with fail;go_ret;exact⟨bS HQ.out.symm,ak (aj _) _⟩):P:=h
theorem Z4{P:Prop}(h:P:=by
 intro v' w2 hown' hgrow _;have hb:=h0.br (ak (aj _) _) hgrow (by simp) (aS _);have eu:=aa hown';have bq:=aa hb;clear hb hown' hgrow;go_wp2;go_ret;obtain⟨B,d,hv⟩:=eu.out.shape;have ho:=eu.out;have hl':xs.length=n:=HN.out.symm;rw[hl']at hv;rw[hv]at ho;exact⟨B,d,congrArg Ending.returned hv,ho.cap.2,ho,bq.out⟩):P:=h
theorem aaf{P:Prop}(h:P:=by
 have xy:=aa hno;clear hno;go_enter func164,ntmps164;go_wp2;go_quiet(fail);go_wp2;refine bodyPost_ret (v:=?_) ?_ rfl ?_;rotate_left
 ·simp[results,results164,go_sem];rfl
 ·exact xP.no xy.out (LR (bO (ak (ak (aj _) _) _) _) (aS _) _ _ _ _ _)):P:=h
theorem ZJ{P:Prop}(h:P:=by
 obtain⟨h1,h2⟩:=h;refine⟨h1,?_⟩;rcases h2 with h2|⟨g',cap,cur,hv,hb,hh,r⟩
 ·exact Or.inl h2
 ·refine Or.inr ⟨g',cap,cur,hv,hb,?_,r⟩;rw[dp _ _ _ _ ?_]
  ·exact hh
  ·rintro rfl;unfold af at hg;rw[hh]at hg;injection hg with hg
   injection hg with _ ht
   exact hne ht):P:=h
theorem ZU{P:Prop}(h:P:=by
 have hq:bt ki ar va cs=false:=by unfold bt;rw[show decide (1<=ki/\ki<=9)=false by simp;omega];simp
 have HQ:=aa hq;clear hq;go_enter func77,ntmps77;go_wp2_with fail;go_ret;exact⟨bS HQ.out.symm,ak (aj _) _⟩):P:=h
theorem ZI{P:Prop}(h:P:=by
 rcases h.2 with⟨_,h0⟩|⟨g,cap,cur,hv,hb,hh,_⟩
 ·exact absurd (List.eq_nil_of_length_eq_zero h0) hne
 ·refine⟨g,cap,hv,hb,?_⟩;rcases Nat.lt_or_ge g w.heap.size with h1|h1
  ·exact h1
  ·rw[Array.getElem?_eq_none h1]at hh;cases hh):P:=h
theorem ZO{P:Prop}(h:P:=by
 clear hq h1;go_enter func185,ntmps185;go_wp2_with fail;refine bodyPost_ret (v:=.tuple #[.int .i64 0,.int .i64 0,.bool false]) ?_ rfl ⟨rfl,rfl⟩;simp[results,results185,go_sem]):P:=h
theorem ZZ{P:Prop}(h:P:=by
 go_enter func221,ntmps221;go_wp2_with fail;refine HI.out.mono ?_;rintro e w1 ⟨rfl,hb1⟩;have bj:=aa hb1;clear hb1;go_wp2_with fail;go_ret;rw[HA.out];exact⟨rfl,bj.out⟩):P:=h
theorem Ts{P:Prop}(h:P:=by
 rcases h.2 with⟨h',h0⟩|⟨g',cap',cur,h',_,_,hc,_⟩
 ·injection h' with _ h1 h2;subst h1;subst h2;exact⟨h0.symm,aS _⟩
 ·injection h' with _ h1 h2;subst h1;subst h2;exact⟨rfl,hc⟩):P:=h
theorem Tq{P:Prop}(h:P:=by
 obtain⟨h1,h2⟩:=h;refine⟨h1,?_⟩;rcases h2 with h2|⟨g',cap,cur,hv,nP,hh,r⟩
 ·exact Or.inl h2
 ·refine Or.inr ⟨g',cap,cur,hv,nP,?_,r⟩;rw[hb.block g' (af.lt hh)];exact hh):P:=h
theorem TF{P:Prop}(h:P:=by
 exact⟨{h.k with i:=⟨by dsimp only;omega,by dsimp only;omega⟩,tr:=⟨by dsimp only;omega,by dsimp only;omega⟩},⟨by unfold lA;dsimp only;omega,fun _=>h.aQ⟩,h.L,h.g⟩):P:=h
theorem TG{P:Prop}(h:P:=by
 have hw:=h.L.at_ 1;unfold r9 at hw;have hg:=h.g;exact⟨{M.k with ep:=⟨hw.1,by dsimp only;omega⟩},uu.eV (by unfold eb;dsimp only;omega) fun _=>M.aQ,M.L,M.g⟩):P:=h
theorem ZT{P:Prop}(h:P:=by
 rw[HG.out];rintro e w1 ⟨rfl,hb1⟩;go_wp2_with fail;go_ret;exact⟨jU (by unfold DW;rw[HG.out];simp),((Below.refl _ _).alloc (aS _) _).trans (hb1.mono (by simp))⟩):P:=h
theorem TM{P:Prop}(h:P:=by
 exact go_ok h hw rfl hw (by simp only[Rn.pc];omega) (hm (by simp only[Rn.pc];omega)) (hb (by simp only[Rn.pc];omega)) hk.i0 hk.j0 (cM _ (rA C C.t0)) rfl):P:=h
theorem TL{P:Prop}(h:P:=by
 exact go_ok h hw rfl hw (by simp only[Rn.pc];omega) (hm (by simp only[Rn.pc];omega)) (hb (by simp only[Rn.pc];omega)) hk.i0 hk.j0 (cM _ (uN C C.t0)) rfl):P:=h
theorem Tt{P:Prop}(h:P:=by
 obtain⟨h1,h2⟩:=h;refine⟨h1,?_⟩;rcases h2 with h2|⟨g',cap,cur,hv,nP,r⟩
 ·exact Or.inl h2
 ·exact Or.inr ⟨g',cap,cur,hv,by omega,r⟩):P:=h
theorem Tz{P:Prop}(h:P:=by
 rintro e w' ⟨rfl,hb⟩;have HB:=aa (ag (ak (aj w) (cr c A n k)) hb);clear hb;go_wp2_with fail;go_ret;exact⟨rfl,HB.out⟩):P:=h
theorem Tw{P:Prop}(h:P:=by
 rw[u64_and _ _ h0 h1 (by omega) (by omega),show(4294967295:Int).toNat=2 ^ 32-1 from rfl,Nat.and_two_pow_sub_one_eq_mod];omega):P:=h
theorem TA{P:Prop}(h:P:=by
 go_wp2_with fail;go_ret;rw[HQ.out];exact(aL.nil w1 w.heap.size 44 .u64).QB (ag (ak (aj _) _) hb1) (aS _)):P:=h
theorem TH{P:Prop}(h:P:=by
 exact⟨{M.k with base:=QK _},uu.eV (by unfold eb;dsimp only;omega) fun _=>M.aQ,M.L,M.g⟩):P:=h
theorem TE{P:Prop}(h:P:=by
 intro v hm;rcases List.mem_append.1 hm with h|h
 ·exact F.val v h
 ·rw[List.mem_singleton]at h;subst h;omega):P:=h
theorem Tx{P:Prop}(h:P:=by
 go_wp2;all_goals go_ret
 all_goals exact⟨bS (by rw[Bool.eq_iff_iff];simp[Mo.iy]<;>omega),rfl⟩):P:=h
theorem ae{P:Prop}(h:P:=by
 omega):P:=h
theorem ah{P:Prop}(h:P:=by
 decide):P:=h
theorem bE{P:Prop}(h:P:=by
 assumption):P:=h
theorem aF{P:Prop}(h:P:=by
 simp):P:=h
theorem aD{α:Sort _}(a:α):∃x,x=a:=⟨a,rfl⟩
end Go.Proofs.YtjcjjiieblineaaGreat
