/- Walks and plain facts. No condition. -/
import Derived.BigQuiet
import Derived.Deep.LoopGhost
import Derived.Deep.QuietTactic
import Derived.Maps.AppendAt
import Derived.Test.YtpfbfhfcbdbglaaGreatRows
import Derived.WalkKit
import Derived.WalkLawsBesides
import Derived.WalkSpells
namespace Go.Proofs.YtpfbfhfcbdbglaaGreat
open Go.RowKit Go.Proofs.Tryz
set_option maxHeartbeats 8000000
set_option maxRecDepth 100000
set_option linter.all false
variable{P:Prop}
theorem _root_.Go.RowKit.Hid.Y{p:Prop}(h:Hid p):p:=h
instance:Coe Int Value:=⟨.int .i64⟩
instance:Coe Nat Value:=⟨λn=>.int .i64 n⟩
instance:Coe Bool Value:=⟨.bool⟩
instance:Coe Nat Addr:=⟨λg=>⟨g,0,none⟩⟩
instance:Coe World Nat:=⟨λw=>w.heap.size⟩
inductive ZV|a|b
def oZ:=ZV.a
def oN:=ZV.b
instance:CoeDep ZV oZ Value:=⟨.int .i64 0⟩
instance:CoeDep ZV oN Value:=⟨.slice none 0 0⟩
abbrev VL:=List Value
abbrev VA:=Array Value
def aR:=@Nat.le_refl
def bW:=@Nat.lt_of_lt_of_le
def cq:=@List.getElem?_eq_getElem
def aZ:=@Nat.zero_le
def bm:=@Nat.le_trans
def ew:=@List.getD_eq_getElem?_getD
def bH:=@IntWalk.i64_in
def dE:=@Below.heap_setCell
def eT:=@Bool.and_eq_true
def fM:=@List.length_append
def cH:=@List.mem_of_getElem?
def dN:=@List.length_set
def bM:=@Nat.le_succ
def ek:=@Int.le_refl
def jI:=@List.length_replicate
def iw:=@List.length_singleton
def fK:=@List.length_take
def fP:=@List.length_map
def fR:=@Int.toNat_natCast
def au:=@if_neg
def ay:=@if_pos
def bF:=@decide_eq_false
def cg:=@decide_eq_true
def dp:=@beq_eq_false_iff_ne
def eI:=@decide_eq_true_eq
def bZ:=@below_drewN
def cA:=@IntKind.wrap_u64
def iu:=@List.length_drop
def kC:=@List.size_toArray
def lI:=@Int.mul_nonneg
theorem mk4(h:P:=by
 go_wp2_with fail;go_ret;rw[F0 HN.Y hlt HX.Y];exact⟨rfl,HB.Y⟩):P:=h
theorem mk7(h:P:=by
 have HP:=ae hp;rw[hp]at HC;clear hp;go_wp2_with fail;refine HC.Y.mono ?_;rintro e b ⟨rfl,a⟩;have br:=ae (ah HB.Y a);clear a;go_wp2_with fail;go_roundw;case rel=>exact⟨k+1,by omega,by go_num,br,qw HZ.Y HX.Y HP.Y⟩
 case measure=>simp[intOf];omega):P:=h
theorem mk8(h:P:=by
 have HP:=ae hp;rw[hp]at HC;clear hp;go_wp2_with fail;refine HC.Y.mono ?_;rintro e b ⟨rfl,a⟩;have br:=ae (ah HB.Y a);clear a;go_wp2_with fail;go_ret;rw[xf HZ.Y HX.Y HP.Y];exact⟨rfl,br.Y⟩):P:=h
theorem SZ(h:P:=by
 go_enter func113,ntmps113;go_wp2;all_goals go_ret
 all_goals exact⟨bK (by rw[Bool.eq_iff_iff];simp[iv]<;>omega),rfl⟩):P:=h
theorem S4(h:P:=by
 rintro e a ⟨rfl,rfl⟩;go_wp2_with fail;go_ret;exact⟨rfl,rfl⟩):P:=h
theorem acA(h:P:=by
 go_enter func101,ntmps101;go_wp2;go_ret;exact⟨rfl,rfl⟩):P:=h
theorem aat(h:P:=by
 obtain⟨A',c',hv,hr⟩:=h.rd;injection hv with e1 e2 e3
 subst e1;subst e2;subst e3;exact⟨rfl,hr⟩):P:=h
theorem XT(h:P:=by
 rcases h.2 with⟨h',_⟩|⟨g',cap',cur,h',_⟩
 .cases h'
 .injection h'):P:=h
theorem XR(h:P:=by
 exact⟨hx,hl,rfl,oy (by decide),λz hz=>by cases hz⟩):P:=h
theorem aaj(h:P:=by
 clear d1;go_enter func139,ntmps139;go_wp2_with fail;refine HWD.Y.mono ?_;rintro e a ⟨rfl,b⟩;obtain⟨k0,k1,kb⟩:=MID.Y a (b.mono (by simp));obtain⟨hc0,hf0,hz0⟩:=ag.aF k0;have hc1:=λi=>ag.cell k1 i;go_wp2_with fail;obtain⟨Dr,CT⟩:=Jc rfl kb k0 (.int .i64 0) (.int .i64 0);generalize((a.setCell ⟨w.heap.size,0,none⟩ (.int .i64 0)).setCell ⟨w.heap.size,1,none⟩ (.int .i64 0))=wf at Dr CT ⊢;have nB:=λi=>ag.cell Dr i;refine bodyPost_ret (v:=.tuple #[.agg #[.int .i64 0,.int .i64 0],.bool false]) ?_ rfl ?_
 .simp[results,results139,go_sem,nB]
 .rw[HR.Y,ay HQ.Y];exact⟨rfl,CT⟩):P:=h
theorem aas(h:P:=by
 have d2:(c.chans==0)=true:=by simpa using h2
 have d3:(c.bn==0)=true:=by simpa using h3
 have Nj:n=0:=by rw[hn,h4];rfl
 subst Nj;have HI:=ae (nZ (w.alloc (dB c A 0 k)) c.cap 1 16 h1);clear hk h1 h2 h3 h4 hn hr hc;go_enter func177,ntmps177;go_wp2_with fail;refine HI.Y.mono ?_;rintro e a ⟨rfl,rfl⟩;go_wp2_with fail;go_ret;exact⟨rfl,aj (ai w) _⟩):P:=h
theorem aaq(h:P:=by
 have HQ:=ae hq;have H3:=ae h3;have H4:=ae h4;clear hq h3 h4 hk;go_enter func72,ntmps72;go_wp2_with fail;refine(BL _ _).mono ?_;rw[H3.Y];rintro e a ⟨rfl,rfl⟩;go_wp2_with fail;refine(uK _ _).mono ?_;rw[H4.Y];rintro e a ⟨rfl,rfl⟩;go_wp2_with fail;go_ret;exact⟨bK HQ.Y.symm,aj (ai _) _⟩):P:=h
theorem aau(h:P:=by
 intro b c hown' a _;have hb:=h0.aW (aj (ai _) _) a (by simp) (aR _);have eN:=ae hown';have bB:=ae hb;clear hb hown' a;go_wp2;go_ret;obtain⟨B,d,hv⟩:=eN.Y.shape;have ho:=eN.Y;have hl':xs.length=n:=HN.Y.symm;rw[hl']at hv;rw[hv]at ho;exact⟨B,d,congrArg Ending.returned hv,ho.cap.2,ho,bB.Y⟩):P:=h
theorem aaD(h:P:=by
 have zw:=ae hno;clear hno;go_enter func149,ntmps149;go_wp2;go_quiet(fail);go_wp2;refine bodyPost_ret (v:=?_) ?_ rfl ?_;rotate_left
 .simp[results,results149,go_sem];rfl
 .exact z7.no zw.Y (OE (bZ (aj (aj (ai _) _) _) _) (aR _) _ _ _ _ _)):P:=h
theorem aah(h:P:=by
 obtain⟨h1,h2⟩:=h;refine⟨h1,?_⟩;rcases h2 with h2|⟨g',cap,cur,hv,hb,hh,r⟩
 .exact Or.inl h2
 .refine Or.inr ⟨g',cap,cur,hv,hb,?_,r⟩;rw[dE _ _ _ _ ?_]
  .exact hh
  .rintro rfl;unfold ag at hg;rw[hh]at hg;injection hg with hg
   injection hg with _ ht
   exact hne ht):P:=h
theorem aap(h:P:=by
 have hq:bt ki ar va cs=false:=by unfold bt;rw[show decide (1<=ki/\ki<=9)=false by simp;omega];simp
 have HQ:=ae hq;clear hq;go_enter func72,ntmps72;go_wp2_with fail;go_ret;exact⟨bK HQ.Y.symm,aj (ai _) _⟩):P:=h
theorem aaf(h:P:=by
 rcases h.2 with⟨_,h0⟩|⟨g,cap,cur,hv,hb,hh,_⟩
 .exact absurd (List.eq_nil_of_length_eq_zero h0) hne
 .refine⟨g,cap,hv,hb,?_⟩;rcases Nat.lt_or_ge g w.heap.size with h1|h1
  .exact h1
  .rw[Array.getElem?_eq_none h1]at hh;cases hh):P:=h
theorem aak(h:P:=by
 clear hq h1;go_enter func170,ntmps170;go_wp2_with fail;refine bodyPost_ret (v:=.tuple #[.int .i64 0,.int .i64 0,.bool false]) ?_ rfl ⟨rfl,rfl⟩;simp[results,results170,go_sem]):P:=h
theorem aar(h:P:=by
 go_enter func205,ntmps205;go_wp2_with fail;refine HI.Y.mono ?_;rintro e b ⟨rfl,a⟩;have br:=ae a;clear a;go_wp2_with fail;go_ret;rw[HA.Y];exact⟨rfl,br.Y⟩):P:=h
theorem VE(h:P:=by
 rcases h.2 with⟨h',h0⟩|⟨g',cap',cur,h',_,_,hc,_⟩
 .injection h' with _ h1 h2;subst h1;subst h2;exact⟨h0.symm,aR _⟩
 .injection h' with _ h1 h2;subst h1;subst h2;exact⟨rfl,hc⟩):P:=h
theorem VC(h:P:=by
 obtain⟨h1,h2⟩:=h;refine⟨h1,?_⟩;rcases h2 with h2|⟨g',cap,cur,hv,pD,hh,r⟩
 .exact Or.inl h2
 .refine Or.inr ⟨g',cap,cur,hv,pD,?_,r⟩;rw[hb.block g' (ag.lt hh)];exact hh):P:=h
theorem VP(h:P:=by
 exact⟨{h.k with i:=⟨by dsimp only;omega,by dsimp only;omega⟩,tr:=⟨by dsimp only;omega,by dsimp only;omega⟩},⟨by unfold nh;dsimp only;omega,λ_=>h.aQ⟩,h.L,h.g⟩):P:=h
theorem VQ(h:P:=by
 have hw:=h.L.at_ 1;unfold uP at hw;have hg:=h.g.1;exact⟨{M.k with ep:=⟨hw.1,by dsimp only;omega⟩},wS.fT (by unfold fk;dsimp only;omega) λ_=>M.aQ,M.L,M.g⟩):P:=h
theorem VI(h:P:=by
 rw[HG.Y];rintro e b ⟨rfl,a⟩;go_wp2_with fail;go_ret;exact⟨jO (by unfold zW;rw[HG.Y];simp),((Below.refl _ _).alloc (aR _) _).trans (a.mono (by simp))⟩):P:=h
theorem VF(h:P:=by
 obtain⟨h1,h2⟩:=h;refine⟨h1,?_⟩;rcases h2 with h2|⟨g',cap,cur,hv,pD,r⟩
 .exact Or.inl h2
 .exact Or.inr ⟨g',cap,cur,hv,by omega,r⟩):P:=h
theorem VK(h:P:=by
 rintro e b ⟨rfl,a⟩;have HB:=ae (ah (aj (ai w) (dB c A n k)) a);clear a;go_wp2_with fail;go_ret;exact⟨rfl,HB.Y⟩):P:=h
theorem VH(h:P:=by
 rw[u64_and _ _ h0 h1 (by omega) (by omega),show(4294967295:Int).toNat=2 ^ 32-1 from rfl,Nat.and_two_pow_sub_one_eq_mod];omega):P:=h
theorem VM(h:P:=by
 go_wp2_with fail;go_ret;rw[HQ.Y];exact(aK.nil w1 w.heap.size 69 .u64).Tc (ah (aj (ai _) _) hb1) (aR _)):P:=h
theorem VR(h:P:=by
 exact⟨{M.k with base:=Th _ h.g.2},wS.fT (by unfold fk;dsimp only;omega) λ_=>M.aQ,M.L,M.g⟩):P:=h
theorem VJ(h:P:=by
 go_wp2;all_goals go_ret
 all_goals exact⟨bK (by rw[Bool.eq_iff_iff];simp[Mo.iN]<;>omega),rfl⟩):P:=h
theorem aa(h:P:=by
 omega):P:=h
theorem af(h:P:=by
 decide):P:=h
theorem aA(h:P:=by
 simp):P:=h
theorem aw{α:Sort _}(a:α):∃x,x=a:=⟨a,rfl⟩
theorem Vz(h:P:=by
 have m:((1+c.cap.toNat:Nat):Int)=1+c.cap:=by omega
 have:(((1+c.cap.toNat)*c.chans.toNat:Nat):Int)=c.chans*(1+c.cap):=by rw[Int.natCast_mul,m,Int.mul_comm];congr 1;omega
 omega):P:=h
end Go.Proofs.YtpfbfhfcbdbglaaGreat
