/- Parts of the proof. -/
import Derived.Test.YtgbjodnegkbfoaaGreatQa27
import Derived.Deep.DeepCutAuto
set_option maxHeartbeats 8000000
set_option maxRecDepth 100000
open Go.Value renaming int→Aa
open Go.IntKind renaming i64→Ab
open Nat renaming le_refl→Ath,le_succ→Atk
open Int renaming toNat_natCast→Ats
namespace Go.Proofs.YtgbjodnegkbfoaaGreat
open Go.RowKit Go.Acc
theorem Rt{l:List UInt8}{p q t v:Int}(h:Bh l p q t v=0):0≤Bg l p q t v∧Bg l p q t v≤l.length:=by
 have hm:Bm l.length p q t v=0:=by
  by_cases e:Bm l.length p q t v=0
  ·exact e
  ·rw [Nb e] at h;exact absurd h e
 obtain⟨_,h2⟩:=D7.1 hm;obtain⟨h1,_⟩:=D7.1 hm;have h2:=Dn.1 h2;have h1:=Cv.1 h1;have hq:=Ck.1 h1.2.1;unfold Bh at h;rw [if_pos hm] at h;unfold Bg;have h':Bh l p q t v=0:=by unfold Bh;rw [if_pos hm];exact h
 rw [if_pos h'];split at h
 ·cases h
 ·split at h
  ·cases h
  ·omega
theorem Dz{w:World}{A:Option Addr}{n:Nat}{l:List UInt8}(h:Cw w A n l):Cw w.drew A n l:=h
theorem Iu{w:World}{p:Addr}{u:Value}(o:Obj)(h:w.cell? p=some u):(w.alloc o).cell? p=some u:=Ag ((Below.refl _ _).alloc (Ath _) o) h
theorem B4{w:World}{p:Addr}{u:Value}(h:w.cell? p=some u):w.drew.cell? p=some u:=h
theorem Tf{w:World}{p q:Addr}{u v:Value}(h:w.cell? q=some v)(hne:q.block≠p.block):(w.setCell p u).cell? q=some v:=
 (World.cell?_of_block (w:=w) (Below.heap_setCell w p u q.block hne)).trans h
def J0(l:List UInt8)(p q t v:Int):Nat:=if 0<Ei t then(Ei t).toNat else loadU l (Bg l p q t v-v) v
def Lo(t v:Int):Nat:=v.toNat+tgs t
def Bw(l:List UInt8)(p q t v:Int):Int:=
 if Bm l.length p q t v≠0 then Bm l.length p q t v
 else if Oc t=false then 60
 else if Bh l p q t v≠0 then Bh l p q t v
 else if Bg l p q t v % v≠0 then 212
 else if(Bg l p q t v).toNat<aheadT t*v.toNat then 211
 else if l.length<(Bg l p q t v).toNat+J0 l p q t v*Lo t v then 211 else 0
def lsFrom(l:List UInt8)(p q t v:Int):Nat:=if Bw l p q t v=0 then(Bg l p q t v).toNat-aheadT t*v.toNat else 0
def lsAt(l:List UInt8)(p q t v:Int):Nat:=if Bw l p q t v=0 then(Bg l p q t v).toNat else 0
def lsTo(l:List UInt8)(p q t v:Int):Nat:=if Bw l p q t v=0 then(Bg l p q t v).toNat+J0 l p q t v*Lo t v else 0
def lsLen(l:List UInt8)(p q t v:Int):Nat:=if Bw l p q t v=0 then J0 l p q t v else 0
def Zc(A:Option Addr)(n c:Nat)(l:List UInt8)(p q t v:Int):Value:=
 if Bw l p q t v=0 then .agg #[.slice A n c,Aa Ab p,Aa Ab q,Aa Ab t,Aa Ab v,Aa Ab (lsFrom l p q t v:Nat),Aa Ab (lsAt l p q t v:Nat),Aa Ab (lsTo l p q t v:Nat),Aa Ab (lsLen l p q t v:Nat)]
 else .agg #[.slice none 0 0,Aa Ab 0,Aa Ab 0,Aa Ab 0,Aa Ab 0,Aa Ab 0,Aa Ab 0,Aa Ab 0,Aa Ab 0]
def LsW(w:World)(A:Option Addr)(n c:Nat)(l:List UInt8)(p q t v:Int)(e:Ending)(w':World):Prop:=
 e= .returned (.tuple #[Zc A n c l p q t v,Aa Ab (Bw l p q t v)])∧Below w.heap.size w w'
theorem Eb{w w':World}{A:Option Addr}{n c:Nat}{l:List UInt8}{p q t v er:Int}(h:Bw l p q t v=er)(hne:er≠0)(hb:Below w.heap.size w w'):
  LsW w A n c l p q t v (.returned (.tuple #[.agg #[.slice none 0 0,Aa Ab 0,Aa Ab 0,Aa Ab 0,Aa Ab 0,Aa Ab 0,Aa Ab 0,Aa Ab 0,Aa Ab 0],Aa Ab er])) w':=by
 unfold LsW Zc;rw [h,if_neg hne];exact⟨rfl,hb⟩
theorem R6{w w':World}{A:Option Addr}{n c a f o k:Nat}{l:List UInt8}{p q t v:Int}(h:Bw l p q t v=0)(ha:(Bg l p q t v).toNat=a)(hf:a-aheadT t*v.toNat=f)(hk:J0 l p q t v=k)(ho:a+k*Lo t v=o)(hb:Below w.heap.size w w'):
  LsW w A n c l p q t v (.returned (.tuple #[.agg #[.slice A n c,Aa Ab p,Aa Ab q,Aa Ab t,Aa Ab v,Aa Ab f,Aa Ab a,Aa Ab o,Aa Ab k],Aa Ab 0])) w':=by
 unfold LsW Zc lsFrom lsAt lsTo lsLen;rw [h,if_pos rfl,if_pos rfl,if_pos rfl,if_pos rfl,if_pos rfl,ha,hf,hk,ho];exact⟨rfl,hb⟩
theorem Pg(l:List UInt8)(p q t v:Int):(Bm l.length p q t v≠0∧Bw l p q t v=Bm l.length p q t v)∨(Bm l.length p q t v=0∧
  ((Oc t=false∧Bw l p q t v=60)∨(Oc t=true∧((Bh l p q t v≠0∧Bw l p q t v=Bh l p q t v)∨(Bh l p q t v=0∧
   ((Bg l p q t v % v≠0∧Bw l p q t v=212)∨(Bg l p q t v % v=0∧(Bg l p q t v).toNat<aheadT t*v.toNat∧Bw l p q t v=211)∨
    (Bg l p q t v % v=0∧aheadT t*v.toNat≤(Bg l p q t v).toNat∧l.length<(Bg l p q t v).toNat+J0 l p q t v*Lo t v∧Bw l p q t v=211)∨
    (Bg l p q t v % v=0∧aheadT t*v.toNat≤(Bg l p q t v).toNat∧(Bg l p q t v).toNat+J0 l p q t v*Lo t v≤l.length∧Bw l p q t v=0))))))):=by
 unfold Bw;by_cases h1:Bm l.length p q t v=0
 ·refine .inr ⟨h1,?_⟩;rw [if_neg (by simpa using h1)];cases h2:Oc t with
  |false=>exact .inl ⟨rfl,if_pos rfl⟩
  |true=>
   refine .inr ⟨rfl,?_⟩;rw [if_neg (by decide)];by_cases h4:Bh l p q t v=0
   ·refine .inr ⟨h4,?_⟩;rw [if_neg (by simpa using h4)];by_cases h5:Bg l p q t v % v=0
    ·rw [if_neg (by simpa using h5)];by_cases h6:(Bg l p q t v).toNat<aheadT t*v.toNat
     ·rw [if_pos h6];exact .inr (.inl ⟨h5,h6,rfl⟩)
     ·rw [if_neg h6];by_cases h7:l.length<(Bg l p q t v).toNat+J0 l p q t v*Lo t v
      ·rw [if_pos h7];exact .inr (.inr (.inl ⟨h5,Nat.le_of_not_lt h6,h7,rfl⟩))
      ·rw [if_neg h7];exact .inr (.inr (.inr ⟨h5,Nat.le_of_not_lt h6,Nat.le_of_not_lt h7,rfl⟩))
    ·rw [if_pos h5];exact .inl ⟨h5,rfl⟩
   ·rw [if_pos h4];exact .inl ⟨h4,rfl⟩
 ·rw [if_pos h1];exact .inl ⟨h1,rfl⟩
theorem Bu{B:Nat}{a w:World}(g:Nat)(h:Below B a w)(hg:B≤g)(v0 v1 v2 v3 v4 v5 v6 v7 v8:Value):
  Below B a (((((((((w.setCell ⟨g,0,none⟩ v0).setCell ⟨g,1,none⟩ v1).setCell ⟨g,2,none⟩ v2).setCell ⟨g,3,none⟩ v3).setCell ⟨g,4,none⟩ v4).setCell ⟨g,5,none⟩ v5).setCell ⟨g,6,none⟩ v6).setCell ⟨g,7,none⟩ v7).setCell ⟨g,8,none⟩ v8):=
 ((((((((h.setCell hg _).setCell hg _).setCell hg _).setCell hg _).setCell hg _).setCell hg _).setCell hg _).setCell hg _).setCell hg _
theorem Are:∀W:World,(binOp .eql 309 .nilFunc .nilFunc).run Tryz.prog W= .ok (.bool true) W:=by
 intro W
 kernel_rfl
theorem R1(F:FuncId):∀W:World,(binOp .eql 309 (.func (.func F) #[] #[]) .nilFunc).run Tryz.prog W= .ok (.bool false) W:=by
 intro W
 kernel_rfl
theorem Acw{t:Int}(h:aheadT t=1∨aheadT t=3)(hm:Ei t=0):(aheadT t=1∧tgs t=0∧Bo t=false)∨(aheadT t=1∧tgs t=1∧Bo t=true)∨(aheadT t=3∧tgs t=1∧Bo t=true):=by
 unfold aheadT tgs Bo at*;by_cases h9:t=9
 ·subst h9;exact .inr (.inr ⟨rfl,rfl,rfl⟩)
 ·rw [if_neg h9,if_neg (by omega)];by_cases h10:t=10
  ·subst h10;exact .inr (.inl ⟨rfl,rfl,rfl⟩)
  ·have e:decide (t=9∨t=10)=false:=decide_eq_false (by omega);rw [e];exact .inl ⟨rfl,rfl,rfl⟩
theorem Vu(V:Nat)(h:V≤8):IntKind.i64.wrap (V:Int)=V:=IntWalk.i64_in _ (by omega)
theorem Vv(V:Nat)(h:V≤8):IntKind.i64.wrap ((V:Int)+1)=(V:Int)+1:=IntWalk.i64_in _ (by omega)
theorem No(N V X:Nat)(h:N*(V+0)=X)(hX:X≤9223372036854775807):wrap64 ((N:Int)*(V:Int))=(X:Int):=by
 rw [←Int.natCast_mul,←h,Nat.add_zero];rw [Nat.add_zero] at h;exact Dr _ (by omega)
theorem Np(N V X:Nat)(h:N*(V+1)=X)(hX:X≤9223372036854775807):wrap64 ((N:Int)*((V:Int)+1))=(X:Int):=by
 rw [show(V:Int)+1=((V+1:Nat):Int) from rfl,←Int.natCast_mul,h];exact Dr _ (by omega)
theorem Pc(A:Option Addr)(n c:Nat)(p q t v:Int)(l:List UInt8)(w:World)(h:Cw w A n l)(hc:n≤c)(hn:n≤1099511627776):
  Calls Tryz.prog 267 #[.slice A n c,.agg #[Aa Ab p,Aa Ab q,Aa Ab t,Aa Ab v]] w (LsW w A n c l p q t v):=by
 have hlen:=h.1;subst hlen;have HL:=Hd ((h.alloc (.cells #[Aa Ab p,Aa Ab q,Aa Ab t,Aa Ab v] 75)).alloc (.cells #[.slice none 0 0,Aa Ab 0,Aa Ab 0,Aa Ab 0,Aa Ab 0,Aa Ab 0,Aa Ab 0,Aa Ab 0,Aa Ab 0] 306));have HB:=Hd (((Below.refl w.heap.size w).alloc (Ath _) (.cells #[Aa Ab p,Aa Ab q,Aa Ab t,Aa Ab v] 75)).alloc (by simp) (.cells #[.slice none 0 0,Aa Ab 0,Aa Ab 0,Aa Ab 0,Aa Ab 0,Aa Ab 0,Aa Ab 0,Aa Ab 0,Aa Ab 0] 306));have HX:=Hd ((Af.new w 75 #[Aa Ab p,Aa Ab q,Aa Ab t,Aa Ab v]).alloc (.cells #[.slice none 0 0,Aa Ab 0,Aa Ab 0,Aa Ab 0,Aa Ab 0,Aa Ab 0,Aa Ab 0,Aa Ab 0,Aa Ab 0] 306));have HK:=Hd (Af.new_ (w:=w.alloc (.cells #[Aa Ab p,Aa Ab q,Aa Ab t,Aa Ab v] 75)) (g:=w.heap.size+1) (by simp) 306 #[.slice none 0 0,Aa Ab 0,Aa Ab 0,Aa Ab 0,Aa Ab 0,Aa Ab 0,Aa Ab 0,Aa Ab 0,Aa Ab 0]);have hcs:=Pg l p q t v;clear h;go_enter Tryz.func267,Tryz.ntmps267;go_wp2_with fail;go_at_call 123;refine(M4 A _ c p q t v _ (by omega)).mono ?_;generalize (w.alloc (.cells #[Aa Ab p,Aa Ab q,Aa Ab t,Aa Ab v] 75)).alloc (.cells #[.slice none 0 0,Aa Ab 0,Aa Ab 0,Aa Ab 0,Aa Ab 0,Aa Ab 0,Aa Ab 0,Aa Ab 0,Aa Ab 0] 306)=wB at HL HB HX HK⊢;have x0:=Az HX.o;have x1:=Ax HX.o;have x2:=Aw HX.o;have x3:=A6 HX.o;rintro e w1 ⟨rfl,hb⟩;clear x0 x1 x2 x3;replace HB:=Hd (Ad HB.o hb);replace HX:=Hd (HX.o.pure hb);replace HK:=Hd (HK.o.pure hb);replace HL:=Hd (HL.o.pure hb);clear hb;have x0:=Az HX.o;have x1:=Ax HX.o;have x2:=Aw HX.o;have x3:=A6 HX.o;rcases hcs with⟨hm,he⟩|⟨hm,hcs⟩
 ·have HE:=Hd he;have HN:=Hd hm;have hne:(Bm l.length p q t v != 0)=true:=by simpa using hm
  clear he hm;obtain ⟨c0,c1,c2,c3,c4,c5,c6,c7,c8⟩:=HK.o.c9;have f0:=HK.o.frozen 0;have f1:=HK.o.frozen 1;have f2:=HK.o.frozen 2;have f3:=HK.o.frozen 3;have f4:=HK.o.frozen 4;have f5:=HK.o.frozen 5;have f6:=HK.o.frozen 6;have f7:=HK.o.frozen 7;have f8:=HK.o.frozen 8;go_wp2;refine bodyPost_ret (v:= .tuple #[.agg #[.slice none 0 0,Aa Ab 0,Aa Ab 0,Aa Ab 0,Aa Ab 0,Aa Ab 0,Aa Ab 0,Aa Ab 0,Aa Ab 0],Aa Ab (Bm l.length p q t v)]) (by simp [results,Tryz.results267,go_sem,c0,c1,c2,c3,c4,c5,c6,c7,c8]) rfl ?_;exact Eb HE.o HN.o (Bu _ HB.o (Atk _) _ _ _ _ _ _ _ _ _)
 ·obtain⟨g1,g2⟩:=D7.1 hm;have g2:=Dn.1 g2;have g1:=Cv.1 g1;have v1:=Ck.1 g1.2.2;have ht:=Gv g1.1;rw [hm];obtain⟨V,rfl⟩:∃V:Nat,v=V:=⟨v.toNat,by omega⟩;have hv1:1≤V:=by omega
  have hv8:V≤8:=by omega
  have hvz:(V==0)=false:=beq_eq_false_iff_ne.mpr (by omega);have htt:=F9.1 ht;have ht0:=htt.1;have ht37:=htt.2;have HCS:=Hd hcs;have hidx:=Ae5 ht;have hsh:=Ae4 ht;clear g1 g2 v1 hcs hm htt ht;obtain⟨a,F,G,tg,hrow⟩:∃a F G tg,Vj t.toNat=[a,F,G,tg]:=by
   rcases hsh with⟨_,e⟩|⟨_,_,_,_,_,e⟩|⟨_,_,_,e⟩ <;>exact⟨_,_,_,_,e⟩
  have hone:a.oneCell'=true∧F.oneCell'=true∧G.oneCell'=true∧tg.oneCell'=true:=by
   rcases hsh with⟨_,e⟩|⟨_,_,_,_,_,e⟩|⟨_,_,_,e⟩ <;>(rw [hrow] at e;injection e with e1 e;injection e with e2 e;injection e with e3 e;injection e with e4 e;subst e1 e2 e3 e4)
   ·exact⟨rfl,rfl,rfl,rfl⟩
   ·exact⟨rfl,rfl,rfl,rfl⟩
   ·exact⟨rfl,rfl,by split <;>rfl,rfl⟩
  have hs0:=fun(W:World) (p:Addr)=>run_store Tryz.prog W p a .plain hone.1
  have hs1:=fun(W:World) (p:Addr)=>run_store Tryz.prog W p F .plain hone.2.1
  have hs2:=fun(W:World) (p:Addr)=>run_store Tryz.prog W p G .plain hone.2.2.1
  have hs3:=fun(W:World) (p:Addr)=>run_store Tryz.prog W p tg .plain hone.2.2.2
  replace hidx:∀W,(Instr.index 313 (.agg Kw) (Aa Ab t)).run Tryz.prog W= .ok (.agg #[a,F,G,tg]) W:=by
   intro W;have:=hidx W;rw [hrow] at this;exact this
  have HSH:=Hd hsh;have HROW:=Hd hrow;clear hsh hrow hone;go_wp2_with fail;go_upto_region 4 with fail
  go_cut [7] (fun u7 wx=>∃g,u7= .pointer (some ⟨g,0,none⟩)∧Af wx g 312 #[a,F,G,tg]∧Below w1.heap.size w1 wx)
  case first=>
   have hszw:w.heap.size+1<w1.heap.size:=HK.o.lt;go_region_held3 (fun w'=>w'.cell? ⟨w.heap.size,2,none⟩=some (Aa Ab t)) (first|with_reducible assumption|(repeat (first|with_reducible assumption|(refine Tf ?_ (by simp;omega))|refine Iu _ ?_|refine B4 ?_)))
    (first|(go_at_call 268;refine(Lh _).mono ?_;rintro e w5 ⟨rfl,hb5⟩;have HB5:=Hd hb5;have hz5:=hb5.size;(try simp at hz5);have x2:=Ag hb5 (p:=⟨w.heap.size,2,none⟩) (u:= Aa Ab t) (by repeat (first|with_reducible assumption|(refine Tf ?_ (by simp;omega))|refine Iu _ ?_|refine B4 ?_));(first|((first|with_reducible have HNB:=Hd ((Af.new w1 312 #[Aa Ab 0,.nilFunc,.nilFunc,Aa Ab 0]).drew.pure hb5)|with_reducible have HNB:=Hd ((Af.new w1.drew 312 #[Aa Ab 0,.nilFunc,.nilFunc,Aa Ab 0]).pure hb5));obtain ⟨k0,k1,k2,k3⟩:=HNB.o.c4;have g0:=HNB.o.frozen 0;have g1:=HNB.o.frozen 1;have g2:=HNB.o.frozen 2;have g3:=HNB.o.frozen 3)|skip);clear hb5))
   all_goals
    go_wp2_with fail;go_meet;have hz6:w1.heap.size≤w5.heap.size:=by have:=HB5.o.size;(try simp at this);omega
    first
     |with_reducible exact⟨_,rfl,Af.new _ _ _,(Ad (Below.refl _ _).drew HB5.o).alloc hz6 _⟩
     |exact⟨_,rfl,(((HNB.o.set_ 0 a).set_ 1 F).set_ 2 G).set_ 3 tg,((((Ad ((Below.refl w1.heap.size w1).alloc (Ath _) _).drew HB5.o).setCell (Ath _) _).setCell (Ath _) _).setCell (Ath _) _).setCell (Ath _) _⟩
  case rest=>
   obtain⟨g,rfl,hS,hb⟩:=hcut;clear x0 x1 x2 x3;replace HB:=Hd (Ad HB.o hb);replace HX:=Hd (HX.o.pure hb);replace HK:=Hd (HK.o.pure hb);replace HL:=Hd (HL.o.pure hb);clear hb;have x0:=Az HX.o;have x1:=Ax HX.o;have x2:=Aw HX.o;have x3:=A6 HX.o;have HS:=Hd hS;clear hS hs0 hs1 hs2 hs3 hidx;rcases HSH.o with⟨hL,e⟩|⟨hL,hM,hM4,hT,hA,e⟩|⟨hL,hM,hA,e⟩
   ·rw [HROW.o] at e;injection e with e1 e;injection e with e2 e;injection e with e3 e;injection e with e4 e
    subst e1 e2 e3 e4;have he:Bw l p q t V=60:=by
     rcases HCS.o with⟨_,e⟩|⟨h,_⟩
     ·exact e
     ·rw [hL] at h;cases h
    have HE:=Hd he;have HN:=Hd (show(60:Int)≠0 by decide);have s1:_=some Value.nilFunc:=HS.o.cell 1;have hfn:=Are;clear he hL HCS HSH HROW;obtain ⟨c0,c1,c2,c3,c4,c5,c6,c7,c8⟩:=HK.o.c9;have f0:=HK.o.frozen 0;have f1:=HK.o.frozen 1;have f2:=HK.o.frozen 2;have f3:=HK.o.frozen 3;have f4:=HK.o.frozen 4;have f5:=HK.o.frozen 5;have f6:=HK.o.frozen 6;have f7:=HK.o.frozen 7;have f8:=HK.o.frozen 8;go_wp2;refine bodyPost_ret (v:= .tuple #[.agg #[.slice none 0 0,Aa Ab 0,Aa Ab 0,Aa Ab 0,Aa Ab 0,Aa Ab 0,Aa Ab 0,Aa Ab 0,Aa Ab 0],Aa Ab 60]) (by simp [results,Tryz.results267,go_sem,c0,c1,c2,c3,c4,c5,c6,c7,c8]) rfl ?_;exact Eb HE.o HN.o (Bu _ HB.o (Atk _) _ _ _ _ _ _ _ _ _)
   ·rw [HROW.o] at e;injection e with e1 e;injection e with e2 e;injection e with e3 e;injection e with e4 e
    subst e1 e2 e3 e4;obtain⟨MM,hMM⟩:∃MM:Nat,Ei t=MM:=⟨(Ei t).toNat,by omega⟩;have hlsN:J0 l p q t V=MM:=by unfold J0;rw [if_pos hM,hMM];rfl
    have hlsX:Lo t V=V+0:=by unfold Lo tgs;rw [hT];rfl
    have HMM:=Hd hMM;have hM4':MM≤4:=by omega
    have hcs:(Bh l p q t V≠0∧Bw l p q t V=Bh l p q t V)∨(Bh l p q t V=0∧
      ((Bg l p q t V % V≠0∧Bw l p q t V=212)∨(Bg l p q t V % V=0∧(Bg l p q t V).toNat<0*V∧Bw l p q t V=211)∨
      (Bg l p q t V % V=0∧0*V≤(Bg l p q t V).toNat∧l.length<(Bg l p q t V).toNat+MM*(V+0)∧Bw l p q t V=211)∨
      (Bg l p q t V % V=0∧0*V≤(Bg l p q t V).toNat∧(Bg l p q t V).toNat+MM*(V+0)≤l.length∧Bw l p q t V=0))):=by
     rcases HCS.o with⟨h,_⟩|⟨_,h⟩
     ·rw [hL] at h;cases h
     ·rw [hlsN,hlsX,hA,Ats] at h;exact h
    have HC2:=Hd hcs;have HLN:=Hd hlsN;have HLX:=Hd hlsX;have HA:=Hd hA;clear hcs hlsN hlsX hL hM hM4 hT hA HCS HSH HROW hMM;unfold Ki at HS;obtain ⟨s0,s1⟩:=HS.o.c2;have s3:_=some _:=HS.o.cell 3;have hfn:=R1 339;go_wp2_with fail;go_at_call 91;refine(G2 A _ c p q t V l _ HL.o hc (by omega)).mono ?_;rintro e w3 ⟨rfl,hb⟩;clear s0 s1 s3;replace HS:=Hd (HS.o.pure hb);clear x0 x1 x2 x3;replace HB:=Hd (Ad HB.o hb);replace HX:=Hd (HX.o.pure hb);replace HK:=Hd (HK.o.pure hb);replace HL:=Hd (HL.o.pure hb);clear hb;have x0:=Az HX.o;have x1:=Ax HX.o;have x2:=Aw HX.o;have x3:=A6 HX.o;rcases HC2.o with⟨h1,he⟩|⟨h1,hcs⟩
    ·have hne:(Bh l p q t V != 0)=true:=by simpa using h1
     have HE:=Hd he;have HN:=Hd h1;clear h1 he HC2;obtain ⟨c0,c1,c2,c3,c4,c5,c6,c7,c8⟩:=HK.o.c9;have f0:=HK.o.frozen 0;have f1:=HK.o.frozen 1;have f2:=HK.o.frozen 2;have f3:=HK.o.frozen 3;have f4:=HK.o.frozen 4;have f5:=HK.o.frozen 5;have f6:=HK.o.frozen 6;have f7:=HK.o.frozen 7;have f8:=HK.o.frozen 8;go_wp2;refine bodyPost_ret (v:= .tuple #[.agg #[.slice none 0 0,Aa Ab 0,Aa Ab 0,Aa Ab 0,Aa Ab 0,Aa Ab 0,Aa Ab 0,Aa Ab 0,Aa Ab 0],Aa Ab (Bh l p q t V)]) (by simp [results,Tryz.results267,go_sem,c0,c1,c2,c3,c4,c5,c6,c7,c8]) rfl ?_;exact Eb HE.o HN.o (Bu _ HB.o (Atk _) _ _ _ _ _ _ _ _ _)
    ·have htr:=Rt h1;rw [h1];obtain⟨b,hb0⟩:∃b:Nat,Bg l p q t V=b:=⟨(Bg l p q t V).toNat,by omega⟩;rw [hb0,Ats] at hcs;have hbl:b≤l.length:=by omega
     have HB0:=Hd hb0;rw [hb0];clear h1 hb0 htr HC2;obtain ⟨s0,s1⟩:=HS.o.c2;have s3:_=some _:=HS.o.cell 3;rcases hcs with⟨h5,he⟩|⟨h5,h6,he⟩|⟨h5,h6,h7,he⟩|⟨h5,h6,h7,he⟩
     ·have hm2:((b:Int) % (V:Int) != 0)=true:=by simpa using h5
      have HE:=Hd he;have HN:=Hd (show(212:Int)≠0 by decide);clear h5 he;obtain ⟨c0,c1,c2,c3,c4,c5,c6,c7,c8⟩:=HK.o.c9;have f0:=HK.o.frozen 0;have f1:=HK.o.frozen 1;have f2:=HK.o.frozen 2;have f3:=HK.o.frozen 3;have f4:=HK.o.frozen 4;have f5:=HK.o.frozen 5;have f6:=HK.o.frozen 6;have f7:=HK.o.frozen 7;have f8:=HK.o.frozen 8;go_wp2;refine bodyPost_ret (v:= .tuple #[.agg #[.slice none 0 0,Aa Ab 0,Aa Ab 0,Aa Ab 0,Aa Ab 0,Aa Ab 0,Aa Ab 0,Aa Ab 0,Aa Ab 0],Aa Ab 212]) (by simp [results,Tryz.results267,go_sem,c0,c1,c2,c3,c4,c5,c6,c7,c8]) rfl ?_;exact Eb HE.o HN.o (Bu _ HB.o (Atk _) _ _ _ _ _ _ _ _ _)
     ·have hm2:((b:Int) % (V:Int) != 0)=false:=by simpa using h5
      have HE:=Hd he;have HN:=Hd (show(211:Int)≠0 by decide);clear h5 he
      first
       |(exfalso;omega)
       |skip
      all_goals
       obtain ⟨c0,c1,c2,c3,c4,c5,c6,c7,c8⟩:=HK.o.c9;have f0:=HK.o.frozen 0;have f1:=HK.o.frozen 1;have f2:=HK.o.frozen 2;have f3:=HK.o.frozen 3;have f4:=HK.o.frozen 4;have f5:=HK.o.frozen 5;have f6:=HK.o.frozen 6;have f7:=HK.o.frozen 7;have f8:=HK.o.frozen 8;go_wp2;refine bodyPost_ret (v:= .tuple #[.agg #[.slice none 0 0,Aa Ab 0,Aa Ab 0,Aa Ab 0,Aa Ab 0,Aa Ab 0,Aa Ab 0,Aa Ab 0,Aa Ab 0],Aa Ab 211]) (by simp [results,Tryz.results267,go_sem,c0,c1,c2,c3,c4,c5,c6,c7,c8]) rfl ?_;exact Eb HE.o HN.o (Bu _ HB.o (Atk _) _ _ _ _ _ _ _ _ _)
     ·have hm2:((b:Int) % (V:Int) != 0)=false:=by simpa using h5
      have HE:=Hd he;have HN:=Hd (show(211:Int)≠0 by decide);clear h5 he;go_wp2_with fail;have hw9:=Vu V (by omega);go_region_held3 (fun w'=>(w'.cell? ⟨w.heap.size,0,none⟩=some (Aa Ab p)∧w'.cell? ⟨w.heap.size,1,none⟩=some (Aa Ab q)∧w'.cell? ⟨w.heap.size,2,none⟩=some (Aa Ab t)∧w'.cell? ⟨w.heap.size,3,none⟩=some (Aa Ab V))∧w'.cell? ⟨g,1,none⟩=some (.func (.func 339) #[] #[])∧w'.cell? ⟨g,3,none⟩=some (Aa Ab 0)) (first|exact⟨⟨x0,x1,x2,x3⟩,s1,s3⟩|exact⟨⟨Ag HB6.o x0,Ag HB6.o x1,Ag HB6.o x2,Ag HB6.o x3⟩,Ag HB6.o s1,Ag HB6.o s3⟩)
       (first|((go_at_call 339;refine(Sm A _ c p q t V b MM _ HMM.o hM4').mono ?_);rintro e w6 ⟨rfl,hb6⟩;have HB6:=Hd hb6;clear hb6))
      have hb6:=HB6.o;clear s0 s1 s3 hw9;replace HS:=Hd (HS.o.drew.pure hb6);replace HB:=Hd (Ad HB.o.drew hb6);replace HX:=Hd (HX.o.drew.pure hb6);replace HK:=Hd (HK.o.drew.pure hb6);replace HL:=Hd ((Dz HL.o).pure hb6);clear hb6 HB6 x0 x1 x2 x3;have x0:=Az HX.o;have x1:=Ax HX.o;have x2:=Aw HX.o;have x3:=A6 HX.o;obtain ⟨s0,s1⟩:=HS.o.c2;have s3:_=some _:=HS.o.cell 3;by_cases hN:l.length<MM
      ·have hd:decide (l.length<MM)=true:=decide_eq_true hN;obtain ⟨c0,c1,c2,c3,c4,c5,c6,c7,c8⟩:=HK.o.c9;have f0:=HK.o.frozen 0;have f1:=HK.o.frozen 1;have f2:=HK.o.frozen 2;have f3:=HK.o.frozen 3;have f4:=HK.o.frozen 4;have f5:=HK.o.frozen 5;have f6:=HK.o.frozen 6;have f7:=HK.o.frozen 7;have f8:=HK.o.frozen 8;go_wp2;refine bodyPost_ret (v:= .tuple #[.agg #[.slice none 0 0,Aa Ab 0,Aa Ab 0,Aa Ab 0,Aa Ab 0,Aa Ab 0,Aa Ab 0,Aa Ab 0,Aa Ab 0],Aa Ab 211]) (by simp [results,Tryz.results267,go_sem,c0,c1,c2,c3,c4,c5,c6,c7,c8]) rfl ?_;exact Eb HE.o HN.o (Bu _ HB.o (Atk _) _ _ _ _ _ _ _ _ _)
      ·have hd:decide (l.length<MM)=false:=decide_eq_false hN;have hNl:MM≤1099511627776:=by omega
       have hXB:MM*(V+0)≤9895604649984:=Nat.le_trans (Nat.mul_le_mul (show MM≤1099511627776 by omega) (show V+0≤9 by omega)) (by decide);obtain⟨X,hX⟩:∃X,MM*(V+0)=X:=⟨_,rfl⟩;rw [hX] at h7 hXB;have HIN:=Hd (show Gs l.length b X=false from decide_eq_false (by omega));have HMUL:=Hd (No MM V X hX (by omega));clear h7 hX;have hmul:=HMUL.o;go_wp2_with fail;clear hmul;go_at_call 206;refine(Da A _ c b X _ (by omega)).mono ?_;rw [HIN.o];rintro e w7 ⟨rfl,rfl⟩;obtain ⟨c0,c1,c2,c3,c4,c5,c6,c7,c8⟩:=HK.o.c9;have f0:=HK.o.frozen 0;have f1:=HK.o.frozen 1;have f2:=HK.o.frozen 2;have f3:=HK.o.frozen 3;have f4:=HK.o.frozen 4;have f5:=HK.o.frozen 5;have f6:=HK.o.frozen 6;have f7:=HK.o.frozen 7;have f8:=HK.o.frozen 8;go_wp2;refine bodyPost_ret (v:= .tuple #[.agg #[.slice none 0 0,Aa Ab 0,Aa Ab 0,Aa Ab 0,Aa Ab 0,Aa Ab 0,Aa Ab 0,Aa Ab 0,Aa Ab 0],Aa Ab 211]) (by simp [results,Tryz.results267,go_sem,c0,c1,c2,c3,c4,c5,c6,c7,c8]) rfl ?_;exact Eb HE.o HN.o (Bu _ HB.o (Atk _) _ _ _ _ _ _ _ _ _)
     ·have hm2:((b:Int) % (V:Int) != 0)=false:=by simpa using h5
      have HE:=Hd he;clear h5 he;go_wp2_with fail;have hw9:=Vu V (by omega);go_region_held3 (fun w'=>(w'.cell? ⟨w.heap.size,0,none⟩=some (Aa Ab p)∧w'.cell? ⟨w.heap.size,1,none⟩=some (Aa Ab q)∧w'.cell? ⟨w.heap.size,2,none⟩=some (Aa Ab t)∧w'.cell? ⟨w.heap.size,3,none⟩=some (Aa Ab V))∧w'.cell? ⟨g,1,none⟩=some (.func (.func 339) #[] #[])∧w'.cell? ⟨g,3,none⟩=some (Aa Ab 0)) (first|exact⟨⟨x0,x1,x2,x3⟩,s1,s3⟩|exact⟨⟨Ag HB6.o x0,Ag HB6.o x1,Ag HB6.o x2,Ag HB6.o x3⟩,Ag HB6.o s1,Ag HB6.o s3⟩)
       (first|((go_at_call 339;refine(Sm A _ c p q t V b MM _ HMM.o hM4').mono ?_);rintro e w6 ⟨rfl,hb6⟩;have HB6:=Hd hb6;clear hb6))
      have hb6:=HB6.o;clear s0 s1 s3 hw9;replace HS:=Hd (HS.o.drew.pure hb6);replace HB:=Hd (Ad HB.o.drew hb6);replace HX:=Hd (HX.o.drew.pure hb6);replace HK:=Hd (HK.o.drew.pure hb6);replace HL:=Hd ((Dz HL.o).pure hb6);clear hb6 HB6 x0 x1 x2 x3;have x0:=Az HX.o;have x1:=Ax HX.o;have x2:=Aw HX.o;have x3:=A6 HX.o;obtain ⟨s0,s1⟩:=HS.o.c2;have s3:_=some _:=HS.o.cell 3;have hN0:MM≤MM*(V+0):=Nat.le_mul_of_pos_right _ (by omega);have hN:¬l.length<MM:=by omega
      have hd:decide (l.length<MM)=false:=decide_eq_false hN;have hNl:MM≤1099511627776:=by omega
      obtain⟨X,hX⟩:∃X,MM*(V+0)=X:=⟨_,rfl⟩;rw [hX] at h7 hN0;have HIN:=Hd (show Gs l.length b X=true from Dn.2 ⟨by omega,by omega,by omega⟩);have HMUL:=Hd (No MM V X hX (by omega));have HXX:=Hd hX;clear hX;have hmul:=HMUL.o;go_wp2_with fail;clear hmul;go_at_call 206;refine(Da A _ c b X _ (by omega)).mono ?_;rw [HIN.o];rintro e w7 ⟨rfl,rfl⟩;have hmul:=HMUL.o;obtain ⟨c0,c1,c2,c3,c4,c5,c6,c7,c8⟩:=HK.o.c9;have f0:=HK.o.frozen 0;have f1:=HK.o.frozen 1;have f2:=HK.o.frozen 2;have f3:=HK.o.frozen 3;have f4:=HK.o.frozen 4;have f5:=HK.o.frozen 5;have f6:=HK.o.frozen 6;have f7:=HK.o.frozen 7;have f8:=HK.o.frozen 8;go_wp2;refine bodyPost_ret (v:= .tuple #[.agg #[.slice A l.length c,Aa Ab p,Aa Ab q,Aa Ab t,Aa Ab V,Aa Ab (b:Int),Aa Ab b,Aa Ab ((b:Int)+X),Aa Ab MM],Aa Ab 0]) (by simp [results,Tryz.results267,go_sem,c0,c1,c2,c3,c4,c5,c6,c7,c8]) rfl ?_;rw [←Int.natCast_add];exact R6 HE.o (by rw [HB0.o,Ats]) (by rw [HA.o,Ats];try omega) HLN.o (by rw [HLX.o,HXX.o]) (Bu _ HB.o (Atk _) _ _ _ _ _ _ _ _ _)
   ·rw [HROW.o] at e;have hcs:(Bh l p q t V≠0∧Bw l p q t V=Bh l p q t V)∨(Bh l p q t V=0∧
      ((Bg l p q t V % V≠0∧Bw l p q t V=212)∨(Bg l p q t V % V=0∧(Bg l p q t V).toNat<aheadT t*V∧Bw l p q t V=211)∨
      (Bg l p q t V % V=0∧aheadT t*V≤(Bg l p q t V).toNat∧l.length<(Bg l p q t V).toNat+J0 l p q t V*(V+tgs t)∧Bw l p q t V=211)∨
      (Bg l p q t V % V=0∧aheadT t*V≤(Bg l p q t V).toNat∧(Bg l p q t V).toNat+J0 l p q t V*(V+tgs t)≤l.length∧Bw l p q t V=0))):=by
     rcases HCS.o with⟨h,_⟩|⟨_,h⟩
     ·rw [hL] at h;cases h
     ·unfold Lo at h;rw [Ats] at h;exact h
    have hNu:J0 l p q t V=loadU l (Bg l p q t V-V) V:=by unfold J0;rw [if_neg (by omega)]
    obtain⟨U,hU⟩:∃U,J0 l p q t V=U:=⟨_,rfl⟩;have HLN:=Hd hU;have HNU:=Hd (hNu.symm.trans hU);rw [hU] at hcs;have hsp:(aheadT t=1∧tgs t=0∧Bo t=false)∨(aheadT t=1∧tgs t=1∧Bo t=true)∨(aheadT t=3∧tgs t=1∧Bo t=true):=Acw hA hM;clear hU hNu hL hM hA HCS HSH HROW;rcases hsp with⟨hA,hT,hT2⟩|⟨hA,hT,hT2⟩|⟨hA,hT,hT2⟩
    ·rw [hA,hT,hT2] at e;rw [hA,hT] at hcs;injection e with e1 e;injection e with e2 e;injection e with e3 e;injection e with e4 e
     subst e1 e2 e3 e4;have HC2:=Hd hcs;have HLX:=Hd (show Lo t V=V+0 by unfold Lo;rw [hT];rfl);have HA:=Hd hA;clear hcs hA hT hT2;unfold Ki at HS;obtain ⟨s0,s1⟩:=HS.o.c2;have s3:_=some _:=HS.o.cell 3;have hfn:=R1 341;go_wp2_with fail;go_at_call 91;refine(G2 A _ c p q t V l _ HL.o hc (by omega)).mono ?_;rintro e w3 ⟨rfl,hb⟩;clear s0 s1 s3;replace HS:=Hd (HS.o.pure hb);clear x0 x1 x2 x3;replace HB:=Hd (Ad HB.o hb);replace HX:=Hd (HX.o.pure hb);replace HK:=Hd (HK.o.pure hb);replace HL:=Hd (HL.o.pure hb);clear hb;have x0:=Az HX.o;have x1:=Ax HX.o;have x2:=Aw HX.o;have x3:=A6 HX.o;rcases HC2.o with⟨h1,he⟩|⟨h1,hcs⟩
     ·have hne:(Bh l p q t V != 0)=true:=by simpa using h1
      have HE:=Hd he;have HN:=Hd h1;clear h1 he HC2;obtain ⟨c0,c1,c2,c3,c4,c5,c6,c7,c8⟩:=HK.o.c9;have f0:=HK.o.frozen 0;have f1:=HK.o.frozen 1;have f2:=HK.o.frozen 2;have f3:=HK.o.frozen 3;have f4:=HK.o.frozen 4;have f5:=HK.o.frozen 5;have f6:=HK.o.frozen 6;have f7:=HK.o.frozen 7;have f8:=HK.o.frozen 8;go_wp2;refine bodyPost_ret (v:= .tuple #[.agg #[.slice none 0 0,Aa Ab 0,Aa Ab 0,Aa Ab 0,Aa Ab 0,Aa Ab 0,Aa Ab 0,Aa Ab 0,Aa Ab 0],Aa Ab (Bh l p q t V)]) (by simp [results,Tryz.results267,go_sem,c0,c1,c2,c3,c4,c5,c6,c7,c8]) rfl ?_;exact Eb HE.o HN.o (Bu _ HB.o (Atk _) _ _ _ _ _ _ _ _ _)
     ·have htr:=Rt h1;rw [h1];obtain⟨b,hb0⟩:∃b:Nat,Bg l p q t V=b:=⟨(Bg l p q t V).toNat,by omega⟩;rw [hb0,Ats] at hcs;have hbl:b≤l.length:=by omega
      have HB0:=Hd hb0;rw [hb0];clear h1 hb0 htr HC2;obtain ⟨s0,s1⟩:=HS.o.c2;have s3:_=some _:=HS.o.cell 3;rcases hcs with⟨h5,he⟩|⟨h5,h6,he⟩|⟨h5,h6,h7,he⟩|⟨h5,h6,h7,he⟩
      ·have hm2:((b:Int) % (V:Int) != 0)=true:=by simpa using h5
       have HE:=Hd he;have HN:=Hd (show(212:Int)≠0 by decide);clear h5 he;obtain ⟨c0,c1,c2,c3,c4,c5,c6,c7,c8⟩:=HK.o.c9;have f0:=HK.o.frozen 0;have f1:=HK.o.frozen 1;have f2:=HK.o.frozen 2;have f3:=HK.o.frozen 3;have f4:=HK.o.frozen 4;have f5:=HK.o.frozen 5;have f6:=HK.o.frozen 6;have f7:=HK.o.frozen 7;have f8:=HK.o.frozen 8;go_wp2;refine bodyPost_ret (v:= .tuple #[.agg #[.slice none 0 0,Aa Ab 0,Aa Ab 0,Aa Ab 0,Aa Ab 0,Aa Ab 0,Aa Ab 0,Aa Ab 0,Aa Ab 0],Aa Ab 212]) (by simp [results,Tryz.results267,go_sem,c0,c1,c2,c3,c4,c5,c6,c7,c8]) rfl ?_;exact Eb HE.o HN.o (Bu _ HB.o (Atk _) _ _ _ _ _ _ _ _ _)
      ·have hm2:((b:Int) % (V:Int) != 0)=false:=by simpa using h5
       have HE:=Hd he;have HN:=Hd (show(211:Int)≠0 by decide);clear h5 he
       first
        |(exfalso;omega)
        |skip
       all_goals
        obtain ⟨c0,c1,c2,c3,c4,c5,c6,c7,c8⟩:=HK.o.c9;have f0:=HK.o.frozen 0;have f1:=HK.o.frozen 1;have f2:=HK.o.frozen 2;have f3:=HK.o.frozen 3;have f4:=HK.o.frozen 4;have f5:=HK.o.frozen 5;have f6:=HK.o.frozen 6;have f7:=HK.o.frozen 7;have f8:=HK.o.frozen 8;go_wp2;refine bodyPost_ret (v:= .tuple #[.agg #[.slice none 0 0,Aa Ab 0,Aa Ab 0,Aa Ab 0,Aa Ab 0,Aa Ab 0,Aa Ab 0,Aa Ab 0,Aa Ab 0],Aa Ab 211]) (by simp [results,Tryz.results267,go_sem,c0,c1,c2,c3,c4,c5,c6,c7,c8]) rfl ?_;exact Eb HE.o HN.o (Bu _ HB.o (Atk _) _ _ _ _ _ _ _ _ _)
      ·have hm2:((b:Int) % (V:Int) != 0)=false:=by simpa using h5
       have HE:=Hd he;have HN:=Hd (show(211:Int)≠0 by decide);clear h5 he;go_wp2_with fail;have hw9:=Vu V (by omega);go_region_held3 (fun w'=>(w'.cell? ⟨w.heap.size,0,none⟩=some (Aa Ab p)∧w'.cell? ⟨w.heap.size,1,none⟩=some (Aa Ab q)∧w'.cell? ⟨w.heap.size,2,none⟩=some (Aa Ab t)∧w'.cell? ⟨w.heap.size,3,none⟩=some (Aa Ab V))∧w'.cell? ⟨g,1,none⟩=some (.func (.func 341) #[] #[])∧w'.cell? ⟨g,3,none⟩=some (Aa Ab 0)) (first|exact⟨⟨x0,x1,x2,x3⟩,s1,s3⟩|exact⟨⟨Ag HB6.o x0,Ag HB6.o x1,Ag HB6.o x2,Ag HB6.o x3⟩,Ag HB6.o s1,Ag HB6.o s3⟩)
        (first|((go_at_call 341;refine(Jy A _ c p q t V b U l _ (Dz HL.o) hc hn (by omega) hv8 (by rw [←HB0.o];exact HNU.o)).mono ?_);rintro e w6 ⟨rfl,hb6⟩;have HB6:=Hd hb6;clear hb6))
       have hb6:=HB6.o;clear s0 s1 s3 hw9;replace HS:=Hd (HS.o.drew.pure hb6);replace HB:=Hd (Ad HB.o.drew hb6);replace HX:=Hd (HX.o.drew.pure hb6);replace HK:=Hd (HK.o.drew.pure hb6);replace HL:=Hd ((Dz HL.o).pure hb6);clear hb6 HB6 x0 x1 x2 x3;have x0:=Az HX.o;have x1:=Ax HX.o;have x2:=Aw HX.o;have x3:=A6 HX.o;obtain ⟨s0,s1⟩:=HS.o.c2;have s3:_=some _:=HS.o.cell 3;by_cases hN:l.length<U
       ·have hd:decide (l.length<U)=true:=decide_eq_true hN;obtain ⟨c0,c1,c2,c3,c4,c5,c6,c7,c8⟩:=HK.o.c9;have f0:=HK.o.frozen 0;have f1:=HK.o.frozen 1;have f2:=HK.o.frozen 2;have f3:=HK.o.frozen 3;have f4:=HK.o.frozen 4;have f5:=HK.o.frozen 5;have f6:=HK.o.frozen 6;have f7:=HK.o.frozen 7;have f8:=HK.o.frozen 8;go_wp2;refine bodyPost_ret (v:= .tuple #[.agg #[.slice none 0 0,Aa Ab 0,Aa Ab 0,Aa Ab 0,Aa Ab 0,Aa Ab 0,Aa Ab 0,Aa Ab 0,Aa Ab 0],Aa Ab 211]) (by simp [results,Tryz.results267,go_sem,c0,c1,c2,c3,c4,c5,c6,c7,c8]) rfl ?_;exact Eb HE.o HN.o (Bu _ HB.o (Atk _) _ _ _ _ _ _ _ _ _)
       ·have hd:decide (l.length<U)=false:=decide_eq_false hN;have hNl:U≤1099511627776:=by omega
        have hXB:U*(V+0)≤9895604649984:=Nat.le_trans (Nat.mul_le_mul (show U≤1099511627776 by omega) (show V+0≤9 by omega)) (by decide);obtain⟨X,hX⟩:∃X,U*(V+0)=X:=⟨_,rfl⟩;rw [hX] at h7 hXB;have HIN:=Hd (show Gs l.length b X=false from decide_eq_false (by omega));have HMUL:=Hd (No U V X hX (by omega));clear h7 hX;have hmul:=HMUL.o;go_wp2_with fail;clear hmul;go_at_call 206;refine(Da A _ c b X _ (by omega)).mono ?_;rw [HIN.o];rintro e w7 ⟨rfl,rfl⟩;obtain ⟨c0,c1,c2,c3,c4,c5,c6,c7,c8⟩:=HK.o.c9;have f0:=HK.o.frozen 0;have f1:=HK.o.frozen 1;have f2:=HK.o.frozen 2;have f3:=HK.o.frozen 3;have f4:=HK.o.frozen 4;have f5:=HK.o.frozen 5;have f6:=HK.o.frozen 6;have f7:=HK.o.frozen 7;have f8:=HK.o.frozen 8;go_wp2;refine bodyPost_ret (v:= .tuple #[.agg #[.slice none 0 0,Aa Ab 0,Aa Ab 0,Aa Ab 0,Aa Ab 0,Aa Ab 0,Aa Ab 0,Aa Ab 0,Aa Ab 0],Aa Ab 211]) (by simp [results,Tryz.results267,go_sem,c0,c1,c2,c3,c4,c5,c6,c7,c8]) rfl ?_;exact Eb HE.o HN.o (Bu _ HB.o (Atk _) _ _ _ _ _ _ _ _ _)
      ·have hm2:((b:Int) % (V:Int) != 0)=false:=by simpa using h5
       have HE:=Hd he;clear h5 he;go_wp2_with fail;have hw9:=Vu V (by omega);go_region_held3 (fun w'=>(w'.cell? ⟨w.heap.size,0,none⟩=some (Aa Ab p)∧w'.cell? ⟨w.heap.size,1,none⟩=some (Aa Ab q)∧w'.cell? ⟨w.heap.size,2,none⟩=some (Aa Ab t)∧w'.cell? ⟨w.heap.size,3,none⟩=some (Aa Ab V))∧w'.cell? ⟨g,1,none⟩=some (.func (.func 341) #[] #[])∧w'.cell? ⟨g,3,none⟩=some (Aa Ab 0)) (first|exact⟨⟨x0,x1,x2,x3⟩,s1,s3⟩|exact⟨⟨Ag HB6.o x0,Ag HB6.o x1,Ag HB6.o x2,Ag HB6.o x3⟩,Ag HB6.o s1,Ag HB6.o s3⟩)
        (first|((go_at_call 341;refine(Jy A _ c p q t V b U l _ (Dz HL.o) hc hn (by omega) hv8 (by rw [←HB0.o];exact HNU.o)).mono ?_);rintro e w6 ⟨rfl,hb6⟩;have HB6:=Hd hb6;clear hb6))
       have hb6:=HB6.o;clear s0 s1 s3 hw9;replace HS:=Hd (HS.o.drew.pure hb6);replace HB:=Hd (Ad HB.o.drew hb6);replace HX:=Hd (HX.o.drew.pure hb6);replace HK:=Hd (HK.o.drew.pure hb6);replace HL:=Hd ((Dz HL.o).pure hb6);clear hb6 HB6 x0 x1 x2 x3;have x0:=Az HX.o;have x1:=Ax HX.o;have x2:=Aw HX.o;have x3:=A6 HX.o;obtain ⟨s0,s1⟩:=HS.o.c2;have s3:_=some _:=HS.o.cell 3;have hN0:U≤U*(V+0):=Nat.le_mul_of_pos_right _ (by omega);have hN:¬l.length<U:=by omega
       have hd:decide (l.length<U)=false:=decide_eq_false hN;have hNl:U≤1099511627776:=by omega
       obtain⟨X,hX⟩:∃X,U*(V+0)=X:=⟨_,rfl⟩;rw [hX] at h7 hN0;have HIN:=Hd (show Gs l.length b X=true from Dn.2 ⟨by omega,by omega,by omega⟩);have HMUL:=Hd (No U V X hX (by omega));have HXX:=Hd hX;clear hX;have hmul:=HMUL.o;go_wp2_with fail;clear hmul;go_at_call 206;refine(Da A _ c b X _ (by omega)).mono ?_;rw [HIN.o];rintro e w7 ⟨rfl,rfl⟩;have hmul:=HMUL.o;obtain ⟨c0,c1,c2,c3,c4,c5,c6,c7,c8⟩:=HK.o.c9;have f0:=HK.o.frozen 0;have f1:=HK.o.frozen 1;have f2:=HK.o.frozen 2;have f3:=HK.o.frozen 3;have f4:=HK.o.frozen 4;have f5:=HK.o.frozen 5;have f6:=HK.o.frozen 6;have f7:=HK.o.frozen 7;have f8:=HK.o.frozen 8;go_wp2;refine bodyPost_ret (v:= .tuple #[.agg #[.slice A l.length c,Aa Ab p,Aa Ab q,Aa Ab t,Aa Ab V,Aa Ab ((b:Int)-V),Aa Ab b,Aa Ab ((b:Int)+X),Aa Ab U],Aa Ab 0]) (by simp [results,Tryz.results267,go_sem,c0,c1,c2,c3,c4,c5,c6,c7,c8]) rfl ?_;rw [show(b:Int)-V=((b-1*V:Nat):Int) by omega,←Int.natCast_add];exact R6 HE.o (by rw [HB0.o,Ats]) (by rw [HA.o,Ats];try omega) HLN.o (by rw [HLX.o,HXX.o]) (Bu _ HB.o (Atk _) _ _ _ _ _ _ _ _ _)
    ·rw [hA,hT,hT2] at e;rw [hA,hT] at hcs;injection e with e1 e;injection e with e2 e;injection e with e3 e;injection e with e4 e
     subst e1 e2 e3 e4;have HC2:=Hd hcs;have HLX:=Hd (show Lo t V=V+1 by unfold Lo;rw [hT];rfl);have HA:=Hd hA;clear hcs hA hT hT2;unfold Ki at HS;obtain ⟨s0,s1⟩:=HS.o.c2;have s3:_=some _:=HS.o.cell 3;have hfn:=R1 341;go_wp2_with fail;go_at_call 91;refine(G2 A _ c p q t V l _ HL.o hc (by omega)).mono ?_;rintro e w3 ⟨rfl,hb⟩;clear s0 s1 s3;replace HS:=Hd (HS.o.pure hb);clear x0 x1 x2 x3;replace HB:=Hd (Ad HB.o hb);replace HX:=Hd (HX.o.pure hb);replace HK:=Hd (HK.o.pure hb);replace HL:=Hd (HL.o.pure hb);clear hb;have x0:=Az HX.o;have x1:=Ax HX.o;have x2:=Aw HX.o;have x3:=A6 HX.o;rcases HC2.o with⟨h1,he⟩|⟨h1,hcs⟩
     ·have hne:(Bh l p q t V != 0)=true:=by simpa using h1
      have HE:=Hd he;have HN:=Hd h1;clear h1 he HC2;obtain ⟨c0,c1,c2,c3,c4,c5,c6,c7,c8⟩:=HK.o.c9;have f0:=HK.o.frozen 0;have f1:=HK.o.frozen 1;have f2:=HK.o.frozen 2;have f3:=HK.o.frozen 3;have f4:=HK.o.frozen 4;have f5:=HK.o.frozen 5;have f6:=HK.o.frozen 6;have f7:=HK.o.frozen 7;have f8:=HK.o.frozen 8;go_wp2;refine bodyPost_ret (v:= .tuple #[.agg #[.slice none 0 0,Aa Ab 0,Aa Ab 0,Aa Ab 0,Aa Ab 0,Aa Ab 0,Aa Ab 0,Aa Ab 0,Aa Ab 0],Aa Ab (Bh l p q t V)]) (by simp [results,Tryz.results267,go_sem,c0,c1,c2,c3,c4,c5,c6,c7,c8]) rfl ?_;exact Eb HE.o HN.o (Bu _ HB.o (Atk _) _ _ _ _ _ _ _ _ _)
     ·have htr:=Rt h1;rw [h1];obtain⟨b,hb0⟩:∃b:Nat,Bg l p q t V=b:=⟨(Bg l p q t V).toNat,by omega⟩;rw [hb0,Ats] at hcs;have hbl:b≤l.length:=by omega
      have HB0:=Hd hb0;rw [hb0];clear h1 hb0 htr HC2;obtain ⟨s0,s1⟩:=HS.o.c2;have s3:_=some _:=HS.o.cell 3;rcases hcs with⟨h5,he⟩|⟨h5,h6,he⟩|⟨h5,h6,h7,he⟩|⟨h5,h6,h7,he⟩
      ·have hm2:((b:Int) % (V:Int) != 0)=true:=by simpa using h5
       have HE:=Hd he;have HN:=Hd (show(212:Int)≠0 by decide);clear h5 he;obtain ⟨c0,c1,c2,c3,c4,c5,c6,c7,c8⟩:=HK.o.c9;have f0:=HK.o.frozen 0;have f1:=HK.o.frozen 1;have f2:=HK.o.frozen 2;have f3:=HK.o.frozen 3;have f4:=HK.o.frozen 4;have f5:=HK.o.frozen 5;have f6:=HK.o.frozen 6;have f7:=HK.o.frozen 7;have f8:=HK.o.frozen 8;go_wp2;refine bodyPost_ret (v:= .tuple #[.agg #[.slice none 0 0,Aa Ab 0,Aa Ab 0,Aa Ab 0,Aa Ab 0,Aa Ab 0,Aa Ab 0,Aa Ab 0,Aa Ab 0],Aa Ab 212]) (by simp [results,Tryz.results267,go_sem,c0,c1,c2,c3,c4,c5,c6,c7,c8]) rfl ?_;exact Eb HE.o HN.o (Bu _ HB.o (Atk _) _ _ _ _ _ _ _ _ _)
      ·have hm2:((b:Int) % (V:Int) != 0)=false:=by simpa using h5
       have HE:=Hd he;have HN:=Hd (show(211:Int)≠0 by decide);clear h5 he
       first
        |(exfalso;omega)
        |skip
       all_goals
        obtain ⟨c0,c1,c2,c3,c4,c5,c6,c7,c8⟩:=HK.o.c9;have f0:=HK.o.frozen 0;have f1:=HK.o.frozen 1;have f2:=HK.o.frozen 2;have f3:=HK.o.frozen 3;have f4:=HK.o.frozen 4;have f5:=HK.o.frozen 5;have f6:=HK.o.frozen 6;have f7:=HK.o.frozen 7;have f8:=HK.o.frozen 8;go_wp2;refine bodyPost_ret (v:= .tuple #[.agg #[.slice none 0 0,Aa Ab 0,Aa Ab 0,Aa Ab 0,Aa Ab 0,Aa Ab 0,Aa Ab 0,Aa Ab 0,Aa Ab 0],Aa Ab 211]) (by simp [results,Tryz.results267,go_sem,c0,c1,c2,c3,c4,c5,c6,c7,c8]) rfl ?_;exact Eb HE.o HN.o (Bu _ HB.o (Atk _) _ _ _ _ _ _ _ _ _)
      ·have hm2:((b:Int) % (V:Int) != 0)=false:=by simpa using h5
       have HE:=Hd he;have HN:=Hd (show(211:Int)≠0 by decide);clear h5 he;go_wp2_with fail;have hw9:=Vv V (by omega);go_region_held3 (fun w'=>(w'.cell? ⟨w.heap.size,0,none⟩=some (Aa Ab p)∧w'.cell? ⟨w.heap.size,1,none⟩=some (Aa Ab q)∧w'.cell? ⟨w.heap.size,2,none⟩=some (Aa Ab t)∧w'.cell? ⟨w.heap.size,3,none⟩=some (Aa Ab V))∧w'.cell? ⟨g,1,none⟩=some (.func (.func 341) #[] #[])∧w'.cell? ⟨g,3,none⟩=some (Aa Ab 1)) (first|exact⟨⟨x0,x1,x2,x3⟩,s1,s3⟩|exact⟨⟨Ag HB6.o x0,Ag HB6.o x1,Ag HB6.o x2,Ag HB6.o x3⟩,Ag HB6.o s1,Ag HB6.o s3⟩)
        (first|((go_at_call 341;refine(Jy A _ c p q t V b U l _ (Dz HL.o) hc hn (by omega) hv8 (by rw [←HB0.o];exact HNU.o)).mono ?_);rintro e w6 ⟨rfl,hb6⟩;have HB6:=Hd hb6;clear hb6))
       have hb6:=HB6.o;clear s0 s1 s3 hw9;replace HS:=Hd (HS.o.drew.pure hb6);replace HB:=Hd (Ad HB.o.drew hb6);replace HX:=Hd (HX.o.drew.pure hb6);replace HK:=Hd (HK.o.drew.pure hb6);replace HL:=Hd ((Dz HL.o).pure hb6);clear hb6 HB6 x0 x1 x2 x3;have x0:=Az HX.o;have x1:=Ax HX.o;have x2:=Aw HX.o;have x3:=A6 HX.o;obtain ⟨s0,s1⟩:=HS.o.c2;have s3:_=some _:=HS.o.cell 3;by_cases hN:l.length<U
       ·have hd:decide (l.length<U)=true:=decide_eq_true hN;obtain ⟨c0,c1,c2,c3,c4,c5,c6,c7,c8⟩:=HK.o.c9;have f0:=HK.o.frozen 0;have f1:=HK.o.frozen 1;have f2:=HK.o.frozen 2;have f3:=HK.o.frozen 3;have f4:=HK.o.frozen 4;have f5:=HK.o.frozen 5;have f6:=HK.o.frozen 6;have f7:=HK.o.frozen 7;have f8:=HK.o.frozen 8;go_wp2;refine bodyPost_ret (v:= .tuple #[.agg #[.slice none 0 0,Aa Ab 0,Aa Ab 0,Aa Ab 0,Aa Ab 0,Aa Ab 0,Aa Ab 0,Aa Ab 0,Aa Ab 0],Aa Ab 211]) (by simp [results,Tryz.results267,go_sem,c0,c1,c2,c3,c4,c5,c6,c7,c8]) rfl ?_;exact Eb HE.o HN.o (Bu _ HB.o (Atk _) _ _ _ _ _ _ _ _ _)
       ·have hd:decide (l.length<U)=false:=decide_eq_false hN;have hNl:U≤1099511627776:=by omega
        have hXB:U*(V+1)≤9895604649984:=Nat.le_trans (Nat.mul_le_mul (show U≤1099511627776 by omega) (show V+1≤9 by omega)) (by decide);obtain⟨X,hX⟩:∃X,U*(V+1)=X:=⟨_,rfl⟩;rw [hX] at h7 hXB;have HIN:=Hd (show Gs l.length b X=false from decide_eq_false (by omega));have HMUL:=Hd (Np U V X hX (by omega));clear h7 hX;have hmul:=HMUL.o;go_wp2_with fail;clear hmul;go_at_call 206;refine(Da A _ c b X _ (by omega)).mono ?_;rw [HIN.o];rintro e w7 ⟨rfl,rfl⟩;obtain ⟨c0,c1,c2,c3,c4,c5,c6,c7,c8⟩:=HK.o.c9;have f0:=HK.o.frozen 0;have f1:=HK.o.frozen 1;have f2:=HK.o.frozen 2;have f3:=HK.o.frozen 3;have f4:=HK.o.frozen 4;have f5:=HK.o.frozen 5;have f6:=HK.o.frozen 6;have f7:=HK.o.frozen 7;have f8:=HK.o.frozen 8;go_wp2;refine bodyPost_ret (v:= .tuple #[.agg #[.slice none 0 0,Aa Ab 0,Aa Ab 0,Aa Ab 0,Aa Ab 0,Aa Ab 0,Aa Ab 0,Aa Ab 0,Aa Ab 0],Aa Ab 211]) (by simp [results,Tryz.results267,go_sem,c0,c1,c2,c3,c4,c5,c6,c7,c8]) rfl ?_;exact Eb HE.o HN.o (Bu _ HB.o (Atk _) _ _ _ _ _ _ _ _ _)
      ·have hm2:((b:Int) % (V:Int) != 0)=false:=by simpa using h5
       have HE:=Hd he;clear h5 he;go_wp2_with fail;have hw9:=Vv V (by omega);go_region_held3 (fun w'=>(w'.cell? ⟨w.heap.size,0,none⟩=some (Aa Ab p)∧w'.cell? ⟨w.heap.size,1,none⟩=some (Aa Ab q)∧w'.cell? ⟨w.heap.size,2,none⟩=some (Aa Ab t)∧w'.cell? ⟨w.heap.size,3,none⟩=some (Aa Ab V))∧w'.cell? ⟨g,1,none⟩=some (.func (.func 341) #[] #[])∧w'.cell? ⟨g,3,none⟩=some (Aa Ab 1)) (first|exact⟨⟨x0,x1,x2,x3⟩,s1,s3⟩|exact⟨⟨Ag HB6.o x0,Ag HB6.o x1,Ag HB6.o x2,Ag HB6.o x3⟩,Ag HB6.o s1,Ag HB6.o s3⟩)
        (first|((go_at_call 341;refine(Jy A _ c p q t V b U l _ (Dz HL.o) hc hn (by omega) hv8 (by rw [←HB0.o];exact HNU.o)).mono ?_);rintro e w6 ⟨rfl,hb6⟩;have HB6:=Hd hb6;clear hb6))
       have hb6:=HB6.o;clear s0 s1 s3 hw9;replace HS:=Hd (HS.o.drew.pure hb6);replace HB:=Hd (Ad HB.o.drew hb6);replace HX:=Hd (HX.o.drew.pure hb6);replace HK:=Hd (HK.o.drew.pure hb6);replace HL:=Hd ((Dz HL.o).pure hb6);clear hb6 HB6 x0 x1 x2 x3;have x0:=Az HX.o;have x1:=Ax HX.o;have x2:=Aw HX.o;have x3:=A6 HX.o;obtain ⟨s0,s1⟩:=HS.o.c2;have s3:_=some _:=HS.o.cell 3;have hN0:U≤U*(V+1):=Nat.le_mul_of_pos_right _ (by omega);have hN:¬l.length<U:=by omega
       have hd:decide (l.length<U)=false:=decide_eq_false hN;have hNl:U≤1099511627776:=by omega
       obtain⟨X,hX⟩:∃X,U*(V+1)=X:=⟨_,rfl⟩;rw [hX] at h7 hN0;have HIN:=Hd (show Gs l.length b X=true from Dn.2 ⟨by omega,by omega,by omega⟩);have HMUL:=Hd (Np U V X hX (by omega));have HXX:=Hd hX;clear hX;have hmul:=HMUL.o;go_wp2_with fail;clear hmul;go_at_call 206;refine(Da A _ c b X _ (by omega)).mono ?_;rw [HIN.o];rintro e w7 ⟨rfl,rfl⟩;have hmul:=HMUL.o;obtain ⟨c0,c1,c2,c3,c4,c5,c6,c7,c8⟩:=HK.o.c9;have f0:=HK.o.frozen 0;have f1:=HK.o.frozen 1;have f2:=HK.o.frozen 2;have f3:=HK.o.frozen 3;have f4:=HK.o.frozen 4;have f5:=HK.o.frozen 5;have f6:=HK.o.frozen 6;have f7:=HK.o.frozen 7;have f8:=HK.o.frozen 8;go_wp2;refine bodyPost_ret (v:= .tuple #[.agg #[.slice A l.length c,Aa Ab p,Aa Ab q,Aa Ab t,Aa Ab V,Aa Ab ((b:Int)-V),Aa Ab b,Aa Ab ((b:Int)+X),Aa Ab U],Aa Ab 0]) (by simp [results,Tryz.results267,go_sem,c0,c1,c2,c3,c4,c5,c6,c7,c8]) rfl ?_;rw [show(b:Int)-V=((b-1*V:Nat):Int) by omega,←Int.natCast_add];exact R6 HE.o (by rw [HB0.o,Ats]) (by rw [HA.o,Ats];try omega) HLN.o (by rw [HLX.o,HXX.o]) (Bu _ HB.o (Atk _) _ _ _ _ _ _ _ _ _)
    ·rw [hA,hT,hT2] at e;rw [hA,hT] at hcs;injection e with e1 e;injection e with e2 e;injection e with e3 e;injection e with e4 e
     subst e1 e2 e3 e4;have HC2:=Hd hcs;have HLX:=Hd (show Lo t V=V+1 by unfold Lo;rw [hT];rfl);have HA:=Hd hA;clear hcs hA hT hT2;unfold Ki at HS;obtain ⟨s0,s1⟩:=HS.o.c2;have s3:_=some _:=HS.o.cell 3;have hfn:=R1 341;go_wp2_with fail;go_at_call 91;refine(G2 A _ c p q t V l _ HL.o hc (by omega)).mono ?_;rintro e w3 ⟨rfl,hb⟩;clear s0 s1 s3;replace HS:=Hd (HS.o.pure hb);clear x0 x1 x2 x3;replace HB:=Hd (Ad HB.o hb);replace HX:=Hd (HX.o.pure hb);replace HK:=Hd (HK.o.pure hb);replace HL:=Hd (HL.o.pure hb);clear hb;have x0:=Az HX.o;have x1:=Ax HX.o;have x2:=Aw HX.o;have x3:=A6 HX.o;rcases HC2.o with⟨h1,he⟩|⟨h1,hcs⟩
     ·have hne:(Bh l p q t V != 0)=true:=by simpa using h1
      have HE:=Hd he;have HN:=Hd h1;clear h1 he HC2;obtain ⟨c0,c1,c2,c3,c4,c5,c6,c7,c8⟩:=HK.o.c9;have f0:=HK.o.frozen 0;have f1:=HK.o.frozen 1;have f2:=HK.o.frozen 2;have f3:=HK.o.frozen 3;have f4:=HK.o.frozen 4;have f5:=HK.o.frozen 5;have f6:=HK.o.frozen 6;have f7:=HK.o.frozen 7;have f8:=HK.o.frozen 8;go_wp2;refine bodyPost_ret (v:= .tuple #[.agg #[.slice none 0 0,Aa Ab 0,Aa Ab 0,Aa Ab 0,Aa Ab 0,Aa Ab 0,Aa Ab 0,Aa Ab 0,Aa Ab 0],Aa Ab (Bh l p q t V)]) (by simp [results,Tryz.results267,go_sem,c0,c1,c2,c3,c4,c5,c6,c7,c8]) rfl ?_;exact Eb HE.o HN.o (Bu _ HB.o (Atk _) _ _ _ _ _ _ _ _ _)
     ·have htr:=Rt h1;rw [h1];obtain⟨b,hb0⟩:∃b:Nat,Bg l p q t V=b:=⟨(Bg l p q t V).toNat,by omega⟩;rw [hb0,Ats] at hcs;have hbl:b≤l.length:=by omega
      have HB0:=Hd hb0;rw [hb0];clear h1 hb0 htr HC2;obtain ⟨s0,s1⟩:=HS.o.c2;have s3:_=some _:=HS.o.cell 3;rcases hcs with⟨h5,he⟩|⟨h5,h6,he⟩|⟨h5,h6,h7,he⟩|⟨h5,h6,h7,he⟩
      ·have hm2:((b:Int) % (V:Int) != 0)=true:=by simpa using h5
       have HE:=Hd he;have HN:=Hd (show(212:Int)≠0 by decide);clear h5 he;obtain ⟨c0,c1,c2,c3,c4,c5,c6,c7,c8⟩:=HK.o.c9;have f0:=HK.o.frozen 0;have f1:=HK.o.frozen 1;have f2:=HK.o.frozen 2;have f3:=HK.o.frozen 3;have f4:=HK.o.frozen 4;have f5:=HK.o.frozen 5;have f6:=HK.o.frozen 6;have f7:=HK.o.frozen 7;have f8:=HK.o.frozen 8;go_wp2;refine bodyPost_ret (v:= .tuple #[.agg #[.slice none 0 0,Aa Ab 0,Aa Ab 0,Aa Ab 0,Aa Ab 0,Aa Ab 0,Aa Ab 0,Aa Ab 0,Aa Ab 0],Aa Ab 212]) (by simp [results,Tryz.results267,go_sem,c0,c1,c2,c3,c4,c5,c6,c7,c8]) rfl ?_;exact Eb HE.o HN.o (Bu _ HB.o (Atk _) _ _ _ _ _ _ _ _ _)
      ·have hm2:((b:Int) % (V:Int) != 0)=false:=by simpa using h5
       have HE:=Hd he;have HN:=Hd (show(211:Int)≠0 by decide);clear h5 he
       first
        |(exfalso;omega)
        |skip
       all_goals
        obtain ⟨c0,c1,c2,c3,c4,c5,c6,c7,c8⟩:=HK.o.c9;have f0:=HK.o.frozen 0;have f1:=HK.o.frozen 1;have f2:=HK.o.frozen 2;have f3:=HK.o.frozen 3;have f4:=HK.o.frozen 4;have f5:=HK.o.frozen 5;have f6:=HK.o.frozen 6;have f7:=HK.o.frozen 7;have f8:=HK.o.frozen 8;go_wp2;refine bodyPost_ret (v:= .tuple #[.agg #[.slice none 0 0,Aa Ab 0,Aa Ab 0,Aa Ab 0,Aa Ab 0,Aa Ab 0,Aa Ab 0,Aa Ab 0,Aa Ab 0],Aa Ab 211]) (by simp [results,Tryz.results267,go_sem,c0,c1,c2,c3,c4,c5,c6,c7,c8]) rfl ?_;exact Eb HE.o HN.o (Bu _ HB.o (Atk _) _ _ _ _ _ _ _ _ _)
      ·have hm2:((b:Int) % (V:Int) != 0)=false:=by simpa using h5
       have HE:=Hd he;have HN:=Hd (show(211:Int)≠0 by decide);clear h5 he;go_wp2_with fail;have hw9:=Vv V (by omega);go_region_held3 (fun w'=>(w'.cell? ⟨w.heap.size,0,none⟩=some (Aa Ab p)∧w'.cell? ⟨w.heap.size,1,none⟩=some (Aa Ab q)∧w'.cell? ⟨w.heap.size,2,none⟩=some (Aa Ab t)∧w'.cell? ⟨w.heap.size,3,none⟩=some (Aa Ab V))∧w'.cell? ⟨g,1,none⟩=some (.func (.func 341) #[] #[])∧w'.cell? ⟨g,3,none⟩=some (Aa Ab 1)) (first|exact⟨⟨x0,x1,x2,x3⟩,s1,s3⟩|exact⟨⟨Ag HB6.o x0,Ag HB6.o x1,Ag HB6.o x2,Ag HB6.o x3⟩,Ag HB6.o s1,Ag HB6.o s3⟩)
        (first|((go_at_call 341;refine(Jy A _ c p q t V b U l _ (Dz HL.o) hc hn (by omega) hv8 (by rw [←HB0.o];exact HNU.o)).mono ?_);rintro e w6 ⟨rfl,hb6⟩;have HB6:=Hd hb6;clear hb6))
       have hb6:=HB6.o;clear s0 s1 s3 hw9;replace HS:=Hd (HS.o.drew.pure hb6);replace HB:=Hd (Ad HB.o.drew hb6);replace HX:=Hd (HX.o.drew.pure hb6);replace HK:=Hd (HK.o.drew.pure hb6);replace HL:=Hd ((Dz HL.o).pure hb6);clear hb6 HB6 x0 x1 x2 x3;have x0:=Az HX.o;have x1:=Ax HX.o;have x2:=Aw HX.o;have x3:=A6 HX.o;obtain ⟨s0,s1⟩:=HS.o.c2;have s3:_=some _:=HS.o.cell 3;by_cases hN:l.length<U
       ·have hd:decide (l.length<U)=true:=decide_eq_true hN;obtain ⟨c0,c1,c2,c3,c4,c5,c6,c7,c8⟩:=HK.o.c9;have f0:=HK.o.frozen 0;have f1:=HK.o.frozen 1;have f2:=HK.o.frozen 2;have f3:=HK.o.frozen 3;have f4:=HK.o.frozen 4;have f5:=HK.o.frozen 5;have f6:=HK.o.frozen 6;have f7:=HK.o.frozen 7;have f8:=HK.o.frozen 8;go_wp2;refine bodyPost_ret (v:= .tuple #[.agg #[.slice none 0 0,Aa Ab 0,Aa Ab 0,Aa Ab 0,Aa Ab 0,Aa Ab 0,Aa Ab 0,Aa Ab 0,Aa Ab 0],Aa Ab 211]) (by simp [results,Tryz.results267,go_sem,c0,c1,c2,c3,c4,c5,c6,c7,c8]) rfl ?_;exact Eb HE.o HN.o (Bu _ HB.o (Atk _) _ _ _ _ _ _ _ _ _)
       ·have hd:decide (l.length<U)=false:=decide_eq_false hN;have hNl:U≤1099511627776:=by omega
        have hXB:U*(V+1)≤9895604649984:=Nat.le_trans (Nat.mul_le_mul (show U≤1099511627776 by omega) (show V+1≤9 by omega)) (by decide);obtain⟨X,hX⟩:∃X,U*(V+1)=X:=⟨_,rfl⟩;rw [hX] at h7 hXB;have HIN:=Hd (show Gs l.length b X=false from decide_eq_false (by omega));have HMUL:=Hd (Np U V X hX (by omega));clear h7 hX;have hmul:=HMUL.o;go_wp2_with fail;clear hmul;go_at_call 206;refine(Da A _ c b X _ (by omega)).mono ?_;rw [HIN.o];rintro e w7 ⟨rfl,rfl⟩;obtain ⟨c0,c1,c2,c3,c4,c5,c6,c7,c8⟩:=HK.o.c9;have f0:=HK.o.frozen 0;have f1:=HK.o.frozen 1;have f2:=HK.o.frozen 2;have f3:=HK.o.frozen 3;have f4:=HK.o.frozen 4;have f5:=HK.o.frozen 5;have f6:=HK.o.frozen 6;have f7:=HK.o.frozen 7;have f8:=HK.o.frozen 8;go_wp2;refine bodyPost_ret (v:= .tuple #[.agg #[.slice none 0 0,Aa Ab 0,Aa Ab 0,Aa Ab 0,Aa Ab 0,Aa Ab 0,Aa Ab 0,Aa Ab 0,Aa Ab 0],Aa Ab 211]) (by simp [results,Tryz.results267,go_sem,c0,c1,c2,c3,c4,c5,c6,c7,c8]) rfl ?_;exact Eb HE.o HN.o (Bu _ HB.o (Atk _) _ _ _ _ _ _ _ _ _)
      ·have hm2:((b:Int) % (V:Int) != 0)=false:=by simpa using h5
       have HE:=Hd he;clear h5 he;go_wp2_with fail;have hw9:=Vv V (by omega);go_region_held3 (fun w'=>(w'.cell? ⟨w.heap.size,0,none⟩=some (Aa Ab p)∧w'.cell? ⟨w.heap.size,1,none⟩=some (Aa Ab q)∧w'.cell? ⟨w.heap.size,2,none⟩=some (Aa Ab t)∧w'.cell? ⟨w.heap.size,3,none⟩=some (Aa Ab V))∧w'.cell? ⟨g,1,none⟩=some (.func (.func 341) #[] #[])∧w'.cell? ⟨g,3,none⟩=some (Aa Ab 1)) (first|exact⟨⟨x0,x1,x2,x3⟩,s1,s3⟩|exact⟨⟨Ag HB6.o x0,Ag HB6.o x1,Ag HB6.o x2,Ag HB6.o x3⟩,Ag HB6.o s1,Ag HB6.o s3⟩)
        (first|((go_at_call 341;refine(Jy A _ c p q t V b U l _ (Dz HL.o) hc hn (by omega) hv8 (by rw [←HB0.o];exact HNU.o)).mono ?_);rintro e w6 ⟨rfl,hb6⟩;have HB6:=Hd hb6;clear hb6))
       have hb6:=HB6.o;clear s0 s1 s3 hw9;replace HS:=Hd (HS.o.drew.pure hb6);replace HB:=Hd (Ad HB.o.drew hb6);replace HX:=Hd (HX.o.drew.pure hb6);replace HK:=Hd (HK.o.drew.pure hb6);replace HL:=Hd ((Dz HL.o).pure hb6);clear hb6 HB6 x0 x1 x2 x3;have x0:=Az HX.o;have x1:=Ax HX.o;have x2:=Aw HX.o;have x3:=A6 HX.o;obtain ⟨s0,s1⟩:=HS.o.c2;have s3:_=some _:=HS.o.cell 3;have hN0:U≤U*(V+1):=Nat.le_mul_of_pos_right _ (by omega);have hN:¬l.length<U:=by omega
       have hd:decide (l.length<U)=false:=decide_eq_false hN;have hNl:U≤1099511627776:=by omega
       obtain⟨X,hX⟩:∃X,U*(V+1)=X:=⟨_,rfl⟩;rw [hX] at h7 hN0;have HIN:=Hd (show Gs l.length b X=true from Dn.2 ⟨by omega,by omega,by omega⟩);have HMUL:=Hd (Np U V X hX (by omega));have HXX:=Hd hX;clear hX;have hmul:=HMUL.o;go_wp2_with fail;clear hmul;go_at_call 206;refine(Da A _ c b X _ (by omega)).mono ?_;rw [HIN.o];rintro e w7 ⟨rfl,rfl⟩;have hmul:=HMUL.o;obtain ⟨c0,c1,c2,c3,c4,c5,c6,c7,c8⟩:=HK.o.c9;have f0:=HK.o.frozen 0;have f1:=HK.o.frozen 1;have f2:=HK.o.frozen 2;have f3:=HK.o.frozen 3;have f4:=HK.o.frozen 4;have f5:=HK.o.frozen 5;have f6:=HK.o.frozen 6;have f7:=HK.o.frozen 7;have f8:=HK.o.frozen 8;go_wp2;refine bodyPost_ret (v:= .tuple #[.agg #[.slice A l.length c,Aa Ab p,Aa Ab q,Aa Ab t,Aa Ab V,Aa Ab ((b:Int)-3*V),Aa Ab b,Aa Ab ((b:Int)+X),Aa Ab U],Aa Ab 0]) (by simp [results,Tryz.results267,go_sem,c0,c1,c2,c3,c4,c5,c6,c7,c8]) rfl ?_;rw [show(b:Int)-3*V=((b-3*V:Nat):Int) by omega,←Int.natCast_add];exact R6 HE.o (by rw [HB0.o,Ats]) (by rw [HA.o,Ats];try omega) HLN.o (by rw [HLX.o,HXX.o]) (Bu _ HB.o (Atk _) _ _ _ _ _ _ _ _ _)
end Go.Proofs.YtgbjodnegkbfoaaGreat
