/- Walks and plain facts. No condition. -/
import Derived.BigQuiet
import Derived.Deep.LoopGhost
import Derived.Deep.QuietTactic
import Derived.Maps.AppendAt
import Derived.Test.YtjcjjiieblineaaGreatRows
import Derived.WalkKit
import Derived.WalkLawsBesides
import Derived.WalkSpells
namespace Go.Proofs.YtjcjjiieblineaaGreat
open Go.RowKit Go.Proofs.Tryz
set_option maxHeartbeats 8000000
set_option maxRecDepth 100000
set_option linter.all false
theorem _root_.Go.RowKit.Hid.Y{p:Prop}(h:Hid p):p:=h
instance:Coe Int Value:=⟨.int .i64⟩
instance:Coe Nat Value:=⟨fun n=>.int .i64 n⟩
instance:Coe Bool Value:=⟨.bool⟩
instance:Coe Nat Addr:=⟨fun g=>⟨g,0,none⟩⟩
instance:Coe World Nat:=⟨fun w=>w.heap.size⟩
inductive ZV|a|b
def oZ:=ZV.a
def oN:=ZV.b
instance:CoeDep ZV oZ Value:=⟨.int .i64 0⟩
instance:CoeDep ZV oN Value:=⟨.slice none 0 0⟩
abbrev VL:=List Value
abbrev VA:=Array Value
def aS:=@Nat.le_refl
def bL:=@Nat.lt_of_lt_of_le
def cY:=@List.getElem?_eq_getElem
def aV:=@Nat.zero_le
def bq:=@Nat.le_trans
def cZ:=@List.getD_eq_getElem?_getD
def cD:=@IntWalk.i64_in
def dp:=@Below.heap_setCell
def cA:=@Bool.and_eq_true
def eW:=@List.length_append
def dB:=@List.mem_of_getElem?
def cq:=@List.length_set
def cj:=@Nat.le_succ
def cI:=@Int.le_refl
def gp:=@List.length_replicate
def gL:=@List.length_singleton
def fF:=@List.length_take
def cW:=@List.length_map
def gu:=@Int.toNat_natCast
def ah:=@if_neg
def au:=@if_pos
def bU:=@decide_eq_false
def eE:=@decide_eq_true
def di:=@beq_eq_false_iff_ne
def bP:=@decide_eq_true_eq
def bV:=@below_drewN
def iW:=@IntKind.wrap_u64
def ie:=@List.length_drop
def jG:=@List.size_toArray
def ly:=@Int.mul_nonneg
theorem mk4{P:Prop}(h:P:=by
 go_wp2_with fail;go_ret;rw[On HN.Y hlt HX.Y];exact⟨rfl,HB.Y⟩):P:=h
theorem mk7{P:Prop}(h:P:=by
 have HP:=ae hp;rw[hp]at HC;clear hp;go_wp2_with fail;refine HC.Y.mono ?_;rintro e b ⟨rfl,a⟩;have br:=ae (ai HB.Y a);clear a;go_wp2_with fail;go_roundw;case rel=>exact⟨k+1,by omega,by go_num,br,xS HZ.Y HX.Y HP.Y⟩
 case measure=>simp[intOf];omega):P:=h
theorem mk8{P:Prop}(h:P:=by
 have HP:=ae hp;rw[hp]at HC;clear hp;go_wp2_with fail;refine HC.Y.mono ?_;rintro e b ⟨rfl,a⟩;have br:=ae (ai HB.Y a);clear a;go_wp2_with fail;go_ret;rw[BM HZ.Y HX.Y HP.Y];exact⟨rfl,br.Y⟩):P:=h
theorem Tv{P:Prop}(h:P:=by
 go_enter func118,ntmps118;go_wp2;all_goals go_ret
 all_goals exact⟨cr (by rw[Bool.eq_iff_iff];simp[ic]<;>omega),rfl⟩):P:=h
theorem TA{P:Prop}(h:P:=by
 rintro e a ⟨rfl,rfl⟩;go_wp2_with fail;go_ret;exact⟨rfl,rfl⟩):P:=h
theorem Zq{P:Prop}(h:P:=by
 exact go_ok h hw rfl hw (by dsimp only;omega) (hm (by dsimp only;omega)) (hb (by dsimp only;omega)) hk.i0 hk.j0 rfl rfl):P:=h
theorem adR{P:Prop}(h:P:=by
 go_enter func72,ntmps72;go_wp2;go_ret;exact⟨rfl,rfl⟩):P:=h
theorem abp{P:Prop}(h:P:=by
 obtain⟨A',c',hv,hr⟩:=h.rd;injection hv with e1 e2 e3
 subst e1;subst e2;subst e3;exact⟨rfl,hr⟩):P:=h
theorem Zo{P:Prop}(h:P:=by
 exact go_ok h hw rfl hw (by dsimp only;omega) (fun _ _=>ho) (fun _ _=>hb) (cI _) hk.j0 rfl rfl):P:=h
theorem YU{P:Prop}(h:P:=by
 rcases h.2 with⟨h',_⟩|⟨g',cap',cur,h',_⟩
 ·cases h'
 ·injection h'):P:=h
theorem Y2{P:Prop}(h:P:=by
 exact⟨hx,hl,rfl,mK (by decide),fun z hz=>by cases hz⟩):P:=h
theorem abe{P:Prop}(h:P:=by
 clear d1;go_enter func154,ntmps154;go_wp2_with fail;refine HWD.Y.mono ?_;rintro e a ⟨rfl,b⟩;obtain⟨k0,k1,kb⟩:=MID.Y a (b.mono (by simp));obtain⟨hc0,hf0,hz0⟩:=af.aM k0;have hc1:=fun i=>af.cell k1 i;go_wp2_with fail;obtain⟨Dn,C5⟩:=Ja rfl kb k0 (.int .i64 0) (.int .i64 0);generalize((a.setCell ⟨w.heap.size,0,none⟩ (.int .i64 0)).setCell ⟨w.heap.size,1,none⟩ (.int .i64 0))=wf at Dn C5 ⊢;have np:=fun i=>af.cell Dn i;refine bodyPost_ret (v:=.tuple #[.agg #[.int .i64 0,.int .i64 0],.bool false]) ?_ rfl ?_
 ·simp[results,results154,go_sem,np]
 ·rw[HR.Y,au HQ.Y];exact⟨rfl,C5⟩):P:=h
theorem abG{P:Prop}(h:P:=by
 by_cases hv:r.fR=true
 ·rw[au hv];by_cases hn:r.note≠0
  ·rw[au hn];split
   ·exact key _ rfl rfl rfl (by simp[hv])
   ·exact key _ rfl rfl rfl (by simp[hv])
  ·rw[ah hn];split
   ·exact key _ rfl rfl rfl (by simp[hv])
   ·exact key _ rfl rfl rfl (by simp[hv])
 ·rw[ah hv];by_cases hn:r.note≠0
  ·rw[au hn];split
   ·exact key _ rfl rfl rfl (by simp[hv])
   ·exact key _ rfl rfl rfl (by simp[hv])
  ·rw[ah hn];split
   ·exact key _ rfl rfl rfl (by simp[hv])
   ·exact key _ rfl rfl rfl (by simp[hv])):P:=h
theorem abo{P:Prop}(h:P:=by
 have d2:(c.chans==0)=true:=by simpa using h2
 have d3:(c.bt==0)=true:=by simpa using h3
 have Ns:n=0:=by rw[hn,h4];rfl
 subst Ns;have HI:=ae (nO (w.alloc (dV c A 0 k)) c.cap 1 16 h1);clear hk h1 h2 h3 h4 hn hr hc;go_enter func193,ntmps193;go_wp2_with fail;refine HI.Y.mono ?_;rintro e a ⟨rfl,rfl⟩;go_wp2_with fail;go_ret;exact⟨rfl,ak (aj w) _⟩):P:=h
theorem abl{P:Prop}(h:P:=by
 have HQ:=ae hq;have H3:=ae h3;have H4:=ae h4;clear hq h3 h4 hk;go_enter func77,ntmps77;go_wp2_with fail;refine(BK _ _).mono ?_;rw[H3.Y];rintro e a ⟨rfl,rfl⟩;go_wp2_with fail;refine(uD _ _).mono ?_;rw[H4.Y];rintro e a ⟨rfl,rfl⟩;go_wp2_with fail;go_ret;exact⟨cr HQ.Y.symm,ak (aj _) _⟩):P:=h
theorem abq{P:Prop}(h:P:=by
 intro b c hown' a _;have hb:=h0.bh (ak (aj _) _) a (by simp) (aS _);have ft:=ae hown';have bE:=ae hb;clear hb hown' a;go_wp2;go_ret;obtain⟨B,d,hv⟩:=ft.Y.shape;have ho:=ft.Y;have hl':xs.length=n:=HN.Y.symm;rw[hl']at hv;rw[hv]at ho;exact⟨B,d,congrArg Ending.returned hv,ho.cap.2,ho,bE.Y⟩):P:=h
theorem abB{P:Prop}(h:P:=by
 have xp:=ae hno;clear hno;go_enter func164,ntmps164;go_wp2;go_quiet(fail);go_wp2;refine bodyPost_ret (v:=?_) ?_ rfl ?_;rotate_left
 ·simp[results,results164,go_sem];rfl
 ·exact zY.no xp.Y (OV (bV (ak (ak (aj _) _) _) _) (aS _) _ _ _ _ _)):P:=h
theorem abb{P:Prop}(h:P:=by
 obtain⟨h1,h2⟩:=h;refine⟨h1,?_⟩;rcases h2 with h2|⟨g',cap,cur,hv,hb,hh,r⟩
 ·exact Or.inl h2
 ·refine Or.inr ⟨g',cap,cur,hv,hb,?_,r⟩;rw[dp _ _ _ _ ?_]
  ·exact hh
  ·rintro rfl;unfold af at hg;rw[hh]at hg;injection hg with hg
   injection hg with _ ht
   exact hne ht):P:=h
theorem abk{P:Prop}(h:P:=by
 have hq:bk ki ar va cs=false:=by unfold bk;rw[show decide (1<=ki/\ki<=9)=false by simp;omega];simp
 have HQ:=ae hq;clear hq;go_enter func77,ntmps77;go_wp2_with fail;go_ret;exact⟨cr HQ.Y.symm,ak (aj _) _⟩):P:=h
theorem aba{P:Prop}(h:P:=by
 rcases h.2 with⟨_,h0⟩|⟨g,cap,cur,hv,hb,hh,_⟩
 ·exact absurd (List.eq_nil_of_length_eq_zero h0) hne
 ·refine⟨g,cap,hv,hb,?_⟩;rcases Nat.lt_or_ge g w.heap.size with h1|h1
  ·exact h1
  ·rw[Array.getElem?_eq_none h1]at hh;cases hh):P:=h
theorem abf{P:Prop}(h:P:=by
 clear hq h1;go_enter func185,ntmps185;go_wp2_with fail;refine bodyPost_ret (v:=.tuple #[.int .i64 0,.int .i64 0,.bool false]) ?_ rfl ⟨rfl,rfl⟩;simp[results,results185,go_sem]):P:=h
theorem abn{P:Prop}(h:P:=by
 go_enter func221,ntmps221;go_wp2_with fail;refine HI.Y.mono ?_;rintro e b ⟨rfl,a⟩;have br:=ae a;clear a;go_wp2_with fail;go_ret;rw[HA.Y];exact⟨rfl,br.Y⟩):P:=h
theorem WQ{P:Prop}(h:P:=by
 rcases h.2 with⟨h',h0⟩|⟨g',cap',cur,h',_,_,hc,_⟩
 ·injection h' with _ h1 h2;subst h1;subst h2;exact⟨h0.symm,aS _⟩
 ·injection h' with _ h1 h2;subst h1;subst h2;exact⟨rfl,hc⟩):P:=h
theorem WN{P:Prop}(h:P:=by
 obtain⟨h1,h2⟩:=h;refine⟨h1,?_⟩;rcases h2 with h2|⟨g',cap,cur,hv,o9,hh,r⟩
 ·exact Or.inl h2
 ·refine Or.inr ⟨g',cap,cur,hv,o9,?_,r⟩;rw[hb.block g' (af.lt hh)];exact hh):P:=h
theorem WZ{P:Prop}(h:P:=by
 exact⟨{h.k with i:=⟨by dsimp only;omega,by dsimp only;omega⟩,tr:=⟨by dsimp only;omega,by dsimp only;omega⟩},⟨by unfold mM;dsimp only;omega,fun _=>h.aN⟩,h.L,h.g⟩):P:=h
theorem W6{P:Prop}(h:P:=by
 have hw:=h.L.at_ 1;unfold uj at hw;have hg:=h.g;exact⟨{M.k with ep:=⟨hw.1,by dsimp only;omega⟩},wM.fO (by unfold fj;dsimp only;omega) fun _=>M.aN,M.L,M.g⟩):P:=h
theorem abj{P:Prop}(h:P:=by
 rw[HG.Y];rintro e b ⟨rfl,a⟩;go_wp2_with fail;go_ret;exact⟨kR (by unfold FV;rw[HG.Y];simp),((Below.refl _ _).alloc (aS _) _).trans (a.mono (by simp))⟩):P:=h
theorem Xg{P:Prop}(h:P:=by
 exact go_ok h hw rfl hw (by simp only[Rn.pc];omega) (hm (by simp only[Rn.pc];omega)) (hb (by simp only[Rn.pc];omega)) hk.i0 hk.j0 (dF _ (tN C C.t0)) rfl):P:=h
theorem Xf{P:Prop}(h:P:=by
 exact go_ok h hw rfl hw (by simp only[Rn.pc];omega) (hm (by simp only[Rn.pc];omega)) (hb (by simp only[Rn.pc];omega)) hk.i0 hk.j0 (dF _ (xt C C.t0)) rfl):P:=h
theorem WR{P:Prop}(h:P:=by
 obtain⟨h1,h2⟩:=h;refine⟨h1,?_⟩;rcases h2 with h2|⟨g',cap,cur,hv,o9,r⟩
 ·exact Or.inl h2
 ·exact Or.inr ⟨g',cap,cur,hv,by omega,r⟩):P:=h
theorem WU{P:Prop}(h:P:=by
 rintro e b ⟨rfl,a⟩;have HB:=ae (ai (ak (aj w) (dV c A n k)) a);clear a;go_wp2_with fail;go_ret;exact⟨rfl,HB.Y⟩):P:=h
theorem WT{P:Prop}(h:P:=by
 rw[u64_and _ _ h0 h1 (by omega) (by omega),show(4294967295:Int).toNat=2 ^ 32-1 from rfl,Nat.and_two_pow_sub_one_eq_mod];omega):P:=h
theorem WV{P:Prop}(h:P:=by
 go_wp2_with fail;go_ret;rw[HQ.Y];exact(aJ.nil w1 w.heap.size 44 .u64).TK (ai (ak (aj _) _) hb1) (aS _)):P:=h
theorem W7{P:Prop}(h:P:=by
 exact⟨{M.k with base:=TU _},wM.fO (by unfold fj;dsimp only;omega) fun _=>M.aN,M.L,M.g⟩):P:=h
theorem WY{P:Prop}(h:P:=by
 intro v a;rcases List.mem_append.1 a with h|h
 ·exact F.val v h
 ·rw[List.mem_singleton]at h;subst h;omega):P:=h
theorem abm{P:Prop}(h:P:=by
 go_wp2;all_goals go_ret
 all_goals exact⟨cr (by rw[Bool.eq_iff_iff];simp[Mo.kD]<;>omega),rfl⟩):P:=h
theorem aa{P:Prop}(h:P:=by
 omega):P:=h
theorem ag{P:Prop}(h:P:=by
 decide):P:=h
theorem bc{P:Prop}(h:P:=by
 assumption):P:=h
theorem aD{P:Prop}(h:P:=by
 simp):P:=h
theorem aG{α:Sort _}(a:α):∃x,x=a:=⟨a,rfl⟩
end Go.Proofs.YtjcjjiieblineaaGreat
