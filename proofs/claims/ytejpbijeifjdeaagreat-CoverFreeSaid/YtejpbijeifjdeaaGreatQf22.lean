/- Parts of the proof. -/
import Derived.Test.YtejpbijeifjdeaaGreatQf21
import Derived.Deep.DeepCutAuto
set_option maxHeartbeats 8000000
set_option maxRecDepth 100000
open Go.Value renaming int→Aa
open Go.IntKind renaming i64→Ab
open Nat renaming le_refl→Ae,le_succ→Ai
open Go.RowKit.Below renaming refl→Af
open Go.IntWalk renaming i64_in→Ao
open Int renaming toNat_natCast→Ay
open Go.Proofs.Tryz
open Go.Proofs.Tryz renaming prog→Ad
namespace Go.Proofs.YtejpbijeifjdeaaGreat
open Go.RowKit Go.Acc
variable {l:List UInt8}{p q t v:Int}{w w':World}{A:Option Addr}{n c:Nat}{u:Value}
theorem Tl(h:Ch l p q t v=0):0≤Cg l p q t v∧Cg l p q t v≤l.length:=by
 have a:Co l.length p q t v=0:=by
  by_cases e:Co l.length p q t v=0
  ·exact e
  ·rw [O2 e] at h;exact absurd h e
 obtain⟨_,h2⟩:=Fg.1 a;obtain⟨h1,_⟩:=Fg.1 a;have h2:=Eh.1 h2;have h1:=Du.1 h1;have c:=Cr.1 h1.2.1;unfold Ch at h;rw [if_pos a] at h;unfold Cg;have b:Ch l p q t v=0:=by unfold Ch;rw [if_pos a];exact h
 rw [if_pos b];split at h
 ·cases h
 ·split at h
  ·cases h
  ·omega
theorem Ez(h:Cv w A n l):Cv w.drew A n l:=h
theorem Jz{p:Addr}(o:Obj)(h:w.cell? p=some u):(w.alloc o).cell? p=some u:=Bl ((Af _ _).alloc (Ae _) o) h
theorem C4{p:Addr}(h:w.cell? p=some u):w.drew.cell? p=some u:=h
theorem Ve{p q:Addr}{v:Value}(h:w.cell? q=some v)(hne:q.block≠p.block):(w.setCell p u).cell? q=some v:=
 (World.cell?_of_block (w:=w) (Below.heap_setCell w p u q.block hne)).trans h
def K8(l:List UInt8)(p q t v:Int):Nat:=if 0<Df t then(Df t).toNat else loadU l (Cg l p q t v-v) v
def Na(t v:Int):Nat:=v.toNat+tgs t
def C2(l:List UInt8)(p q t v:Int):Int:=
 if Co l.length p q t v≠0 then Co l.length p q t v
 else if K5 t=false then 60
 else if Ch l p q t v≠0 then Ch l p q t v
 else if Cg l p q t v % v≠0 then 212
 else if(Cg l p q t v).toNat<aheadT t*v.toNat then 211
 else if l.length<(Cg l p q t v).toNat+K8 l p q t v*Na t v then 211 else 0
def lsFrom(l:List UInt8)(p q t v:Int):Nat:=if C2 l p q t v=0 then(Cg l p q t v).toNat-aheadT t*v.toNat else 0
def lsAt(l:List UInt8)(p q t v:Int):Nat:=if C2 l p q t v=0 then(Cg l p q t v).toNat else 0
def lsTo(l:List UInt8)(p q t v:Int):Nat:=if C2 l p q t v=0 then(Cg l p q t v).toNat+K8 l p q t v*Na t v else 0
def lsLen(l:List UInt8)(p q t v:Int):Nat:=if C2 l p q t v=0 then K8 l p q t v else 0
def aN(A:Option Addr)(n c:Nat)(l:List UInt8)(p q t v:Int):Value:=
 if C2 l p q t v=0 then .agg #[.slice A n c,Aa Ab p,Aa Ab q,Aa Ab t,Aa Ab v,Aa Ab (lsFrom l p q t v:Nat),Aa Ab (lsAt l p q t v:Nat),Aa Ab (lsTo l p q t v:Nat),Aa Ab (lsLen l p q t v:Nat)]
 else .agg #[.slice none 0 0,Aa Ab 0,Aa Ab 0,Aa Ab 0,Aa Ab 0,Aa Ab 0,Aa Ab 0,Aa Ab 0,Aa Ab 0]
def jH(w:World)(A:Option Addr)(n c:Nat)(l:List UInt8)(p q t v:Int)(e:Ending)(w':World):Prop:=
 e= .returned (.tuple #[aN A n c l p q t v,Aa Ab (C2 l p q t v)])∧Below w.heap.size w w'
theorem Fi{er:Int}(h:C2 l p q t v=er)(hne:er≠0)(hb:Below w.heap.size w w'):
  jH w A n c l p q t v (.returned (.tuple #[.agg #[.slice none 0 0,Aa Ab 0,Aa Ab 0,Aa Ab 0,Aa Ab 0,Aa Ab 0,Aa Ab 0,Aa Ab 0,Aa Ab 0],Aa Ab er])) w':=by
 unfold jH aN;rw [h,if_neg hne];exact⟨rfl,hb⟩
theorem T6{a f o k:Nat}(h:C2 l p q t v=0)(ha:(Cg l p q t v).toNat=a)(hf:a-aheadT t*v.toNat=f)(hk:K8 l p q t v=k)(ho:a+k*Na t v=o)(hb:Below w.heap.size w w'):
  jH w A n c l p q t v (.returned (.tuple #[.agg #[.slice A n c,Aa Ab p,Aa Ab q,Aa Ab t,Aa Ab v,Aa Ab f,Aa Ab a,Aa Ab o,Aa Ab k],Aa Ab 0])) w':=by
 unfold jH aN lsFrom lsAt lsTo lsLen;rw [h,if_pos rfl,if_pos rfl,if_pos rfl,if_pos rfl,if_pos rfl,ha,hf,hk,ho];exact⟨rfl,hb⟩
theorem Q6(l:List UInt8)(p q t v:Int):(Co l.length p q t v≠0∧C2 l p q t v=Co l.length p q t v)∨(Co l.length p q t v=0∧
  ((K5 t=false∧C2 l p q t v=60)∨(K5 t=true∧((Ch l p q t v≠0∧C2 l p q t v=Ch l p q t v)∨(Ch l p q t v=0∧
   ((Cg l p q t v % v≠0∧C2 l p q t v=212)∨(Cg l p q t v % v=0∧(Cg l p q t v).toNat<aheadT t*v.toNat∧C2 l p q t v=211)∨
    (Cg l p q t v % v=0∧aheadT t*v.toNat≤(Cg l p q t v).toNat∧l.length<(Cg l p q t v).toNat+K8 l p q t v*Na t v∧C2 l p q t v=211)∨
    (Cg l p q t v % v=0∧aheadT t*v.toNat≤(Cg l p q t v).toNat∧(Cg l p q t v).toNat+K8 l p q t v*Na t v≤l.length∧C2 l p q t v=0))))))):=by
 unfold C2;by_cases h1:Co l.length p q t v=0
 ·refine .inr ⟨h1,?_⟩;rw [if_neg (by simpa using h1)];cases h2:K5 t with
  |false=>exact .inl ⟨rfl,if_pos rfl⟩
  |true=>
   refine .inr ⟨rfl,?_⟩;rw [if_neg (by decide)];by_cases c:Ch l p q t v=0
   ·refine .inr ⟨c,?_⟩;rw [if_neg (by simpa using c)];by_cases a:Cg l p q t v % v=0
    ·rw [if_neg (by simpa using a)];by_cases b:(Cg l p q t v).toNat<aheadT t*v.toNat
     ·rw [if_pos b];exact .inr (.inl ⟨a,b,rfl⟩)
     ·rw [if_neg b];by_cases d:l.length<(Cg l p q t v).toNat+K8 l p q t v*Na t v
      ·rw [if_pos d];exact .inr (.inr (.inl ⟨a,Nat.le_of_not_lt b,d,rfl⟩))
      ·rw [if_neg d];exact .inr (.inr (.inr ⟨a,Nat.le_of_not_lt b,Nat.le_of_not_lt d,rfl⟩))
    ·rw [if_pos a];exact .inl ⟨a,rfl⟩
   ·rw [if_pos c];exact .inl ⟨c,rfl⟩
 ·rw [if_pos h1];exact .inl ⟨h1,rfl⟩
theorem Cw{B:Nat}{a:World}(g:Nat)(h:Below B a w)(hg:B≤g)(v0 v1 v2 v3 v4 v5 v6 v7 v8:Value):
  Below B a (((((((((w.setCell ⟨g,0,none⟩ v0).setCell ⟨g,1,none⟩ v1).setCell ⟨g,2,none⟩ v2).setCell ⟨g,3,none⟩ v3).setCell ⟨g,4,none⟩ v4).setCell ⟨g,5,none⟩ v5).setCell ⟨g,6,none⟩ v6).setCell ⟨g,7,none⟩ v7).setCell ⟨g,8,none⟩ v8):=
 ((((((((h.setCell hg _).setCell hg _).setCell hg _).setCell hg _).setCell hg _).setCell hg _).setCell hg _).setCell hg _).setCell hg _
theorem Ac5:∀W:World,(binOp .eql 282 .nilFunc .nilFunc).run Ad W= .ok (.bool true) W:=by
 intro W
 kernel_rfl
theorem Tz(F:FuncId):∀W:World,(binOp .eql 282 (.func (.func F) #[] #[]) .nilFunc).run Ad W= .ok (.bool false) W:=by
 intro W
 kernel_rfl
theorem gV(h:aheadT t=1∨aheadT t=3)(hm:Df t=0):(aheadT t=1∧tgs t=0∧Cj t=false)∨(aheadT t=1∧tgs t=1∧Cj t=true)∨(aheadT t=3∧tgs t=1∧Cj t=true):=by
 unfold aheadT tgs Cj at*;by_cases b:t=9
 ·subst b;exact .inr (.inr ⟨rfl,rfl,rfl⟩)
 ·rw [if_neg b,if_neg (by omega)];by_cases a:t=10
  ·subst a;exact .inr (.inl ⟨rfl,rfl,rfl⟩)
  ·have e:decide (t=9∨t=10)=false:=decide_eq_false (by omega);rw [e];exact .inl ⟨rfl,rfl,rfl⟩
theorem Xy(V:Nat)(h:V≤8):IntKind.i64.wrap (V:Int)=V:=Ao _ (by omega)
theorem Xz(V:Nat)(h:V≤8):IntKind.i64.wrap ((V:Int)+1)=(V:Int)+1:=Ao _ (by omega)
theorem Pc(N V X:Nat)(h:N*(V+0)=X)(hX:X≤9223372036854775807):wrap64 ((N:Int)*(V:Int))=(X:Int):=by
 rw [←Int.natCast_mul,←h,Nat.add_zero];rw [Nat.add_zero] at h;exact Ek _ (by omega)
theorem Pd(N V X:Nat)(h:N*(V+1)=X)(hX:X≤9223372036854775807):wrap64 ((N:Int)*((V:Int)+1))=(X:Int):=by
 rw [show(V:Int)+1=((V+1:Nat):Int) from rfl,←Int.natCast_mul,h];exact Ek _ (by omega)
theorem Q0(A:Option Addr)(n c:Nat)(p q t v:Int)(l:List UInt8)(w:World)(h:Cv w A n l)(hc:n≤c)(hn:n≤1099511627776):
  Calls Ad 251 #[.slice A n c,.agg (Afg p q t v)] w (jH w A n c l p q t v):=by
 have b4:=h.1;subst b4;have T:=Hd ((h.alloc (.cells (Afg p q t v) 70)).alloc (.cells #[.slice none 0 0,Aa Ab 0,Aa Ab 0,Aa Ab 0,Aa Ab 0,Aa Ab 0,Aa Ab 0,Aa Ab 0,Aa Ab 0] 279));have x:=Hd (((Af w.heap.size w).alloc (Ae _) (.cells (Afg p q t v) 70)).alloc (by simp) (.cells #[.slice none 0 0,Aa Ab 0,Aa Ab 0,Aa Ab 0,Aa Ab 0,Aa Ab 0,Aa Ab 0,Aa Ab 0,Aa Ab 0] 279));have N:=Hd ((Bk.new w 70 (Afg p q t v)).alloc (.cells #[.slice none 0 0,Aa Ab 0,Aa Ab 0,Aa Ab 0,Aa Ab 0,Aa Ab 0,Aa Ab 0,Aa Ab 0,Aa Ab 0] 279));have i:=Hd (Bk.new_ (w:=w.alloc (.cells (Afg p q t v) 70)) (g:=w.heap.size+1) (by simp) 279 #[.slice none 0 0,Aa Ab 0,Aa Ab 0,Aa Ab 0,Aa Ab 0,Aa Ab 0,Aa Ab 0,Aa Ab 0,Aa Ab 0]);have m:=Q6 l p q t v;clear h;go_enter func251,ntmps251;go_wp2_with fail;go_at_call 148;refine(Ot A _ c p q t v _ (by omega)).mono ?_;generalize (w.alloc (.cells (Afg p q t v) 70)).alloc (.cells #[.slice none 0 0,Aa Ab 0,Aa Ab 0,Aa Ab 0,Aa Ab 0,Aa Ab 0,Aa Ab 0,Aa Ab 0,Aa Ab 0] 279)=wB at T x N i⊢;obtain ⟨P,Q,M,R⟩:=N.o.c4;rintro e w1 ⟨rfl,Z⟩;clear P Q M R;replace x:=Hd (Bi x.o Z);replace N:=Hd (N.o.pure Z);replace i:=Hd (i.o.pure Z);replace T:=Hd (T.o.pure Z);clear Z;obtain ⟨P,Q,M,R⟩:=N.o.c4;rcases m with⟨hm,j⟩|⟨hm,m⟩
 ·have K:=Hd j;have Y:=Hd hm;have bm:(Co l.length p q t v != 0)=true:=by simpa using hm
  clear j hm;obtain ⟨y,z,B,C,D,E,H,I,J⟩:=i.o.c9;obtain ⟨f0,f1,f2,f3,f4,f5,f6,f7,f8⟩:=i.o.f9;go_wp2;refine bodyPost_ret (v:= .tuple #[.agg #[.slice none 0 0,Aa Ab 0,Aa Ab 0,Aa Ab 0,Aa Ab 0,Aa Ab 0,Aa Ab 0,Aa Ab 0,Aa Ab 0],Aa Ab (Co l.length p q t v)]) (by simp [results,results251,go_sem,y,z,B,C,D,E,H,I,J]) rfl ?_;exact Fi K.o Y.o (Cw _ x.o (Ai _) _ _ _ _ _ _ _ _ _)
 ·obtain⟨g1,g2⟩:=Fg.1 hm;have g2:=Eh.1 g2;have g1:=Du.1 g1;have v1:=Cr.1 g1.2.2;have ht:=Ic g1.1;rw [hm];obtain⟨V,rfl⟩:∃V:Nat,v=V:=⟨v.toNat,by omega⟩;have ck:1≤V:=by omega
  have bb:V≤8:=by omega
  have cl:(V==0)=false:=beq_eq_false_iff_ne.mpr (by omega);have bw:=Hg.1 ht;have cj:=bw.1;have ci:=bw.2;have a8:=Hd m;have bh:=lA ht;have bn:=kZ ht;clear g1 g2 v1 m hm bw ht;obtain⟨a,F,G,tg,a7⟩:∃a F G tg,Xm t.toNat=[a,F,G,tg]:=by
   rcases bn with⟨_,e⟩|⟨_,_,_,_,_,e⟩|⟨_,_,_,e⟩ <;>exact⟨_,_,_,_,e⟩
  have a0:a.oneCell'=true∧F.oneCell'=true∧G.oneCell'=true∧tg.oneCell'=true:=by
   rcases bn with⟨_,e⟩|⟨_,_,_,_,_,e⟩|⟨_,_,_,e⟩ <;>(rw [a7] at e;injection e with e1 e;injection e with e2 e;injection e with e3 e;injection e with e4 e;subst e1 e2 e3 e4)
   ·exact⟨rfl,rfl,rfl,rfl⟩
   ·exact⟨rfl,rfl,rfl,rfl⟩
   ·exact⟨rfl,rfl,by split <;>rfl,rfl⟩
  have b8:=fun(W:World) (p:Addr)=>run_store Ad W p a .plain a0.1
  have b9:=fun(W:World) (p:Addr)=>run_store Ad W p F .plain a0.2.1
  have ca:=fun(W:World) (p:Addr)=>run_store Ad W p G .plain a0.2.2.1
  have cb:=fun(W:World) (p:Addr)=>run_store Ad W p tg .plain a0.2.2.2
  replace bh:∀W,(Instr.index 286 (.agg Ma) (Aa Ab t)).run Ad W= .ok (.agg #[a,F,G,tg]) W:=by
   intro W;have:=bh W;rw [a7] at this;exact this
  have bk:=Hd bn;have av:=Hd a7;clear bn a7 a0;go_wp2_with fail;go_upto_region 4 with fail
  go_cut [7] (fun u7 wx=>∃g,u7= Afh g∧Bk wx g 285 #[a,F,G,tg]∧Below w1.heap.size w1 wx)
  case first=>
   have ch:w.heap.size+1<w1.heap.size:=i.o.lt;go_region_held3 (fun w'=>w'.cell? ⟨w.heap.size,2,none⟩=some (Aa Ab t)) (first|with_reducible assumption|(repeat (first|with_reducible assumption|(refine Ve ?_ (by simp;omega))|refine Jz _ ?_|refine C4 ?_)))
    (first|(go_at_call 252;refine(My _).mono ?_;rintro e w5 ⟨rfl,ba⟩;have bs:=Hd ba;have cd:=ba.size;(try simp at cd);have M:=Bl ba (p:=⟨w.heap.size,2,none⟩) (u:= Aa Ab t) (by repeat (first|with_reducible assumption|(refine Ve ?_ (by simp;omega))|refine Jz _ ?_|refine C4 ?_));(first|((first|with_reducible have be:=Hd ((Bk.new w1 285 #[Aa Ab 0,.nilFunc,.nilFunc,Aa Ab 0]).drew.pure ba)|with_reducible have be:=Hd ((Bk.new w1.drew 285 #[Aa Ab 0,.nilFunc,.nilFunc,Aa Ab 0]).pure ba));obtain ⟨k0,k1,k2,k3⟩:=be.o.c4;obtain ⟨g0,g1,g2⟩:=be.o.f3;have g3:=be.o.frozen 3)|skip);clear ba))
   all_goals
    go_wp2_with fail;go_meet;have ce:w1.heap.size≤w5.heap.size:=by have:=bs.o.size;(try simp at this);omega
    first
     |with_reducible exact⟨_,rfl,Bk.new _ _ _,(Bi (Af _ _).drew bs.o).alloc ce _⟩
     |exact⟨_,rfl,(((be.o.set_ 0 a).set_ 1 F).set_ 2 G).set_ 3 tg,((((Bi ((Af w1.heap.size w1).alloc (Ae _) _).drew bs.o).setCell (Ae _) _).setCell (Ae _) _).setCell (Ae _) _).setCell (Ae _) _⟩
  case rest=>
   obtain⟨g,rfl,hS,Z⟩:=hcut;clear P Q M R;replace x:=Hd (Bi x.o Z);replace N:=Hd (N.o.pure Z);replace i:=Hd (i.o.pure Z);replace T:=Hd (T.o.pure Z);clear Z;obtain ⟨P,Q,M,R⟩:=N.o.c4;have k:=Hd hS;clear hS b8 b9 ca cb bh;rcases bk.o with⟨hL,e⟩|⟨hL,hM,b7,hT,hA,e⟩|⟨hL,hM,hA,e⟩
   ·rw [av.o] at e;injection e with e1 e;injection e with e2 e;injection e with e3 e;injection e with e4 e
    subst e1 e2 e3 e4;have j:C2 l p q t V=60:=by
     rcases a8.o with⟨_,e⟩|⟨h,_⟩
     ·exact e
     ·rw [hL] at h;cases h
    have K:=Hd j;have Y:=Hd (show(60:Int)≠0 by decide);have O:_=some Value.nilFunc:=k.o.cell 1;have bl:=Ac5;clear j hL a8 bk av;obtain ⟨y,z,B,C,D,E,H,I,J⟩:=i.o.c9;obtain ⟨f0,f1,f2,f3,f4,f5,f6,f7,f8⟩:=i.o.f9;go_wp2;refine bodyPost_ret (v:= .tuple #[.agg #[.slice none 0 0,Aa Ab 0,Aa Ab 0,Aa Ab 0,Aa Ab 0,Aa Ab 0,Aa Ab 0,Aa Ab 0,Aa Ab 0],Aa Ab 60]) (by simp [results,results251,go_sem,y,z,B,C,D,E,H,I,J]) rfl ?_;exact Fi K.o Y.o (Cw _ x.o (Ai _) _ _ _ _ _ _ _ _ _)
   ·rw [av.o] at e;injection e with e1 e;injection e with e2 e;injection e with e3 e;injection e with e4 e
    subst e1 e2 e3 e4;obtain⟨MM,bt⟩:∃MM:Nat,Df t=MM:=⟨(Df t).toNat,by omega⟩;have bi:K8 l p q t V=MM:=by unfold K8;rw [if_pos hM,bt];rfl
    have bj:Na t V=V+0:=by unfold Na tgs;rw [hT];rfl
    have b1:=Hd bt;have bp:MM≤4:=by omega
    have m:(Ch l p q t V≠0∧C2 l p q t V=Ch l p q t V)∨(Ch l p q t V=0∧
      ((Cg l p q t V % V≠0∧C2 l p q t V=212)∨(Cg l p q t V % V=0∧(Cg l p q t V).toNat<0*V∧C2 l p q t V=211)∨
      (Cg l p q t V % V=0∧0*V≤(Cg l p q t V).toNat∧l.length<(Cg l p q t V).toNat+MM*(V+0)∧C2 l p q t V=211)∨
      (Cg l p q t V % V=0∧0*V≤(Cg l p q t V).toNat∧(Cg l p q t V).toNat+MM*(V+0)≤l.length∧C2 l p q t V=0))):=by
     rcases a8.o with⟨h,_⟩|⟨_,h⟩
     ·rw [hL] at h;cases h
     ·rw [bi,bj,hA,Ay] at h;exact h
    have ad:=Hd m;have bd:=Hd bi;have a1:=Hd bj;have HA:=Hd hA;clear m bi bj hL hM b7 hT hA a8 bk av bt;unfold Lq at k;obtain ⟨s0,O⟩:=k.o.c2;have S:_=some _:=k.o.cell 3;have bl:=Tz 309;go_wp2_with fail;go_at_call 79;refine(Im A _ c p q t V l _ T.o hc (by omega)).mono ?_;rintro e w3 ⟨rfl,Z⟩;clear s0 O S;replace k:=Hd (k.o.pure Z);clear P Q M R;replace x:=Hd (Bi x.o Z);replace N:=Hd (N.o.pure Z);replace i:=Hd (i.o.pure Z);replace T:=Hd (T.o.pure Z);clear Z;obtain ⟨P,Q,M,R⟩:=N.o.c4;rcases ad.o with⟨h1,j⟩|⟨h1,m⟩
    ·have bm:(Ch l p q t V != 0)=true:=by simpa using h1
     have K:=Hd j;have Y:=Hd h1;clear h1 j ad;obtain ⟨y,z,B,C,D,E,H,I,J⟩:=i.o.c9;obtain ⟨f0,f1,f2,f3,f4,f5,f6,f7,f8⟩:=i.o.f9;go_wp2;refine bodyPost_ret (v:= .tuple #[.agg #[.slice none 0 0,Aa Ab 0,Aa Ab 0,Aa Ab 0,Aa Ab 0,Aa Ab 0,Aa Ab 0,Aa Ab 0,Aa Ab 0],Aa Ab (Ch l p q t V)]) (by simp [results,results251,go_sem,y,z,B,C,D,E,H,I,J]) rfl ?_;exact Fi K.o Y.o (Cw _ x.o (Ai _) _ _ _ _ _ _ _ _ _)
    ·have a6:=Tl h1;rw [h1];obtain⟨b,aa⟩:∃b:Nat,Cg l p q t V=b:=⟨(Cg l p q t V).toNat,by omega⟩;rw [aa,Ay] at m;have bu:b≤l.length:=by omega
     have ah:=Hd aa;rw [aa];clear h1 aa a6 ad;obtain ⟨s0,O⟩:=k.o.c2;have S:_=some _:=k.o.cell 3;rcases m with⟨L,j⟩|⟨L,h6,j⟩|⟨L,h6,h7,j⟩|⟨L,h6,h7,j⟩
     ·have af:((b:Int) % (V:Int) != 0)=true:=by simpa using L
      have K:=Hd j;have Y:=Hd (show(212:Int)≠0 by decide);clear L j;obtain ⟨y,z,B,C,D,E,H,I,J⟩:=i.o.c9;obtain ⟨f0,f1,f2,f3,f4,f5,f6,f7,f8⟩:=i.o.f9;go_wp2;refine bodyPost_ret (v:= .tuple #[.agg #[.slice none 0 0,Aa Ab 0,Aa Ab 0,Aa Ab 0,Aa Ab 0,Aa Ab 0,Aa Ab 0,Aa Ab 0,Aa Ab 0],Aa Ab 212]) (by simp [results,results251,go_sem,y,z,B,C,D,E,H,I,J]) rfl ?_;exact Fi K.o Y.o (Cw _ x.o (Ai _) _ _ _ _ _ _ _ _ _)
     ·have af:((b:Int) % (V:Int) != 0)=false:=by simpa using L
      have K:=Hd j;have Y:=Hd (show(211:Int)≠0 by decide);clear L j
      first
       |(exfalso;omega)
       |skip
      all_goals
       obtain ⟨y,z,B,C,D,E,H,I,J⟩:=i.o.c9;obtain ⟨f0,f1,f2,f3,f4,f5,f6,f7,f8⟩:=i.o.f9;go_wp2;refine bodyPost_ret (v:= .tuple #[.agg #[.slice none 0 0,Aa Ab 0,Aa Ab 0,Aa Ab 0,Aa Ab 0,Aa Ab 0,Aa Ab 0,Aa Ab 0,Aa Ab 0],Aa Ab 211]) (by simp [results,results251,go_sem,y,z,B,C,D,E,H,I,J]) rfl ?_;exact Fi K.o Y.o (Cw _ x.o (Ai _) _ _ _ _ _ _ _ _ _)
     ·have af:((b:Int) % (V:Int) != 0)=false:=by simpa using L
      have K:=Hd j;have Y:=Hd (show(211:Int)≠0 by decide);clear L j;go_wp2_with fail;have ag:=Xy V (by omega);go_region_held3 (fun w'=>(w'.cell? ⟨w.heap.size,0,none⟩=some (Aa Ab p)∧w'.cell? ⟨w.heap.size,1,none⟩=some (Aa Ab q)∧w'.cell? ⟨w.heap.size,2,none⟩=some (Aa Ab t)∧w'.cell? ⟨w.heap.size,3,none⟩=some (Aa Ab V))∧w'.cell? ⟨g,1,none⟩=some (.func (.func 309) #[] #[])∧w'.cell? ⟨g,3,none⟩=some (Aa Ab 0)) (first|exact⟨⟨P,Q,M,R⟩,O,S⟩|exact⟨⟨Bl f.o P,Bl f.o Q,Bl f.o M,Bl f.o R⟩,Bl f.o O,Bl f.o S⟩)
       (first|((go_at_call 309;refine(Uk A _ c p q t V b MM _ b1.o bp).mono ?_);rintro e w6 ⟨rfl,d⟩;have f:=Hd d;clear d))
      have d:=f.o;clear s0 O S ag;replace k:=Hd (k.o.drew.pure d);replace x:=Hd (Bi x.o.drew d);replace N:=Hd (N.o.drew.pure d);replace i:=Hd (i.o.drew.pure d);replace T:=Hd ((Ez T.o).pure d);clear d f P Q M R;obtain ⟨P,Q,M,R⟩:=N.o.c4;obtain ⟨s0,O⟩:=k.o.c2;have S:_=some _:=k.o.cell 3;by_cases hN:l.length<MM
      ·have hd:decide (l.length<MM)=true:=decide_eq_true hN;obtain ⟨y,z,B,C,D,E,H,I,J⟩:=i.o.c9;obtain ⟨f0,f1,f2,f3,f4,f5,f6,f7,f8⟩:=i.o.f9;go_wp2;refine bodyPost_ret (v:= .tuple #[.agg #[.slice none 0 0,Aa Ab 0,Aa Ab 0,Aa Ab 0,Aa Ab 0,Aa Ab 0,Aa Ab 0,Aa Ab 0,Aa Ab 0],Aa Ab 211]) (by simp [results,results251,go_sem,y,z,B,C,D,E,H,I,J]) rfl ?_;exact Fi K.o Y.o (Cw _ x.o (Ai _) _ _ _ _ _ _ _ _ _)
      ·have hd:decide (l.length<MM)=false:=decide_eq_false hN;have a4:MM≤1099511627776:=by omega
       have a5:MM*(V+0)≤9895604649984:=Nat.le_trans (Nat.mul_le_mul (show MM≤1099511627776 by omega) (show V+0≤9 by omega)) (by decide);obtain⟨X,hX⟩:∃X,MM*(V+0)=X:=⟨_,rfl⟩;rw [hX] at h7 a5;have ae:=Hd (show H8 l.length b X=false from decide_eq_false (by omega));have r:=Hd (Pc MM V X hX (by omega));clear h7 hX;have s:=r.o;go_wp2_with fail;clear s;go_at_call 246;refine(D5 A _ c b X _ (by omega)).mono ?_;rw [ae.o];rintro e w7 ⟨rfl,rfl⟩;obtain ⟨y,z,B,C,D,E,H,I,J⟩:=i.o.c9;obtain ⟨f0,f1,f2,f3,f4,f5,f6,f7,f8⟩:=i.o.f9;go_wp2;refine bodyPost_ret (v:= .tuple #[.agg #[.slice none 0 0,Aa Ab 0,Aa Ab 0,Aa Ab 0,Aa Ab 0,Aa Ab 0,Aa Ab 0,Aa Ab 0,Aa Ab 0],Aa Ab 211]) (by simp [results,results251,go_sem,y,z,B,C,D,E,H,I,J]) rfl ?_;exact Fi K.o Y.o (Cw _ x.o (Ai _) _ _ _ _ _ _ _ _ _)
     ·have af:((b:Int) % (V:Int) != 0)=false:=by simpa using L
      have K:=Hd j;clear L j;go_wp2_with fail;have ag:=Xy V (by omega);go_region_held3 (fun w'=>(w'.cell? ⟨w.heap.size,0,none⟩=some (Aa Ab p)∧w'.cell? ⟨w.heap.size,1,none⟩=some (Aa Ab q)∧w'.cell? ⟨w.heap.size,2,none⟩=some (Aa Ab t)∧w'.cell? ⟨w.heap.size,3,none⟩=some (Aa Ab V))∧w'.cell? ⟨g,1,none⟩=some (.func (.func 309) #[] #[])∧w'.cell? ⟨g,3,none⟩=some (Aa Ab 0)) (first|exact⟨⟨P,Q,M,R⟩,O,S⟩|exact⟨⟨Bl f.o P,Bl f.o Q,Bl f.o M,Bl f.o R⟩,Bl f.o O,Bl f.o S⟩)
       (first|((go_at_call 309;refine(Uk A _ c p q t V b MM _ b1.o bp).mono ?_);rintro e w6 ⟨rfl,d⟩;have f:=Hd d;clear d))
      have d:=f.o;clear s0 O S ag;replace k:=Hd (k.o.drew.pure d);replace x:=Hd (Bi x.o.drew d);replace N:=Hd (N.o.drew.pure d);replace i:=Hd (i.o.drew.pure d);replace T:=Hd ((Ez T.o).pure d);clear d f P Q M R;obtain ⟨P,Q,M,R⟩:=N.o.c4;obtain ⟨s0,O⟩:=k.o.c2;have S:_=some _:=k.o.cell 3;have a3:MM≤MM*(V+0):=Nat.le_mul_of_pos_right _ (by omega);have hN:¬l.length<MM:=by omega
      have hd:decide (l.length<MM)=false:=decide_eq_false hN;have a4:MM≤1099511627776:=by omega
      obtain⟨X,hX⟩:∃X,MM*(V+0)=X:=⟨_,rfl⟩;rw [hX] at h7 a3;have ae:=Hd (show H8 l.length b X=true from Eh.2 ⟨by omega,by omega,by omega⟩);have r:=Hd (Pc MM V X hX (by omega));have a2:=Hd hX;clear hX;have s:=r.o;go_wp2_with fail;clear s;go_at_call 246;refine(D5 A _ c b X _ (by omega)).mono ?_;rw [ae.o];rintro e w7 ⟨rfl,rfl⟩;have s:=r.o;obtain ⟨y,z,B,C,D,E,H,I,J⟩:=i.o.c9;obtain ⟨f0,f1,f2,f3,f4,f5,f6,f7,f8⟩:=i.o.f9;go_wp2;refine bodyPost_ret (v:= .tuple #[.agg #[.slice A l.length c,Aa Ab p,Aa Ab q,Aa Ab t,Aa Ab V,Aa Ab (b:Int),Aa Ab b,Aa Ab ((b:Int)+X),Aa Ab MM],Aa Ab 0]) (by simp [results,results251,go_sem,y,z,B,C,D,E,H,I,J]) rfl ?_;rw [←Int.natCast_add];exact T6 K.o (by rw [ah.o,Ay]) (by rw [HA.o,Ay];try omega) bd.o (by rw [a1.o,a2.o]) (Cw _ x.o (Ai _) _ _ _ _ _ _ _ _ _)
   ·rw [av.o] at e;have m:(Ch l p q t V≠0∧C2 l p q t V=Ch l p q t V)∨(Ch l p q t V=0∧
      ((Cg l p q t V % V≠0∧C2 l p q t V=212)∨(Cg l p q t V % V=0∧(Cg l p q t V).toNat<aheadT t*V∧C2 l p q t V=211)∨
      (Cg l p q t V % V=0∧aheadT t*V≤(Cg l p q t V).toNat∧l.length<(Cg l p q t V).toNat+K8 l p q t V*(V+tgs t)∧C2 l p q t V=211)∨
      (Cg l p q t V % V=0∧aheadT t*V≤(Cg l p q t V).toNat∧(Cg l p q t V).toNat+K8 l p q t V*(V+tgs t)≤l.length∧C2 l p q t V=0))):=by
     rcases a8.o with⟨h,_⟩|⟨_,h⟩
     ·rw [hL] at h;cases h
     ·unfold Na at h;rw [Ay] at h;exact h
    have b3:K8 l p q t V=loadU l (Cg l p q t V-V) V:=by unfold K8;rw [if_neg (by omega)]
    obtain⟨U,hU⟩:∃U,K8 l p q t V=U:=⟨_,rfl⟩;have bd:=Hd hU;have a9:=Hd (b3.symm.trans hU);rw [hU] at m;have cc:(aheadT t=1∧tgs t=0∧Cj t=false)∨(aheadT t=1∧tgs t=1∧Cj t=true)∨(aheadT t=3∧tgs t=1∧Cj t=true):=gV hA hM;clear hU b3 hL hM hA a8 bk av;rcases cc with⟨hA,hT,az⟩|⟨hA,hT,az⟩|⟨hA,hT,az⟩
    ·rw [hA,hT,az] at e;rw [hA,hT] at m;injection e with e1 e;injection e with e2 e;injection e with e3 e;injection e with e4 e
     subst e1 e2 e3 e4;have ad:=Hd m;have a1:=Hd (show Na t V=V+0 by unfold Na;rw [hT];rfl);have HA:=Hd hA;clear m hA hT az;unfold Lq at k;obtain ⟨s0,O⟩:=k.o.c2;have S:_=some _:=k.o.cell 3;have bl:=Tz 311;go_wp2_with fail;go_at_call 79;refine(Im A _ c p q t V l _ T.o hc (by omega)).mono ?_;rintro e w3 ⟨rfl,Z⟩;clear s0 O S;replace k:=Hd (k.o.pure Z);clear P Q M R;replace x:=Hd (Bi x.o Z);replace N:=Hd (N.o.pure Z);replace i:=Hd (i.o.pure Z);replace T:=Hd (T.o.pure Z);clear Z;obtain ⟨P,Q,M,R⟩:=N.o.c4;rcases ad.o with⟨h1,j⟩|⟨h1,m⟩
     ·have bm:(Ch l p q t V != 0)=true:=by simpa using h1
      have K:=Hd j;have Y:=Hd h1;clear h1 j ad;obtain ⟨y,z,B,C,D,E,H,I,J⟩:=i.o.c9;obtain ⟨f0,f1,f2,f3,f4,f5,f6,f7,f8⟩:=i.o.f9;go_wp2;refine bodyPost_ret (v:= .tuple #[.agg #[.slice none 0 0,Aa Ab 0,Aa Ab 0,Aa Ab 0,Aa Ab 0,Aa Ab 0,Aa Ab 0,Aa Ab 0,Aa Ab 0],Aa Ab (Ch l p q t V)]) (by simp [results,results251,go_sem,y,z,B,C,D,E,H,I,J]) rfl ?_;exact Fi K.o Y.o (Cw _ x.o (Ai _) _ _ _ _ _ _ _ _ _)
     ·have a6:=Tl h1;rw [h1];obtain⟨b,aa⟩:∃b:Nat,Cg l p q t V=b:=⟨(Cg l p q t V).toNat,by omega⟩;rw [aa,Ay] at m;have bu:b≤l.length:=by omega
      have ah:=Hd aa;rw [aa];clear h1 aa a6 ad;obtain ⟨s0,O⟩:=k.o.c2;have S:_=some _:=k.o.cell 3;rcases m with⟨L,j⟩|⟨L,h6,j⟩|⟨L,h6,h7,j⟩|⟨L,h6,h7,j⟩
      ·have af:((b:Int) % (V:Int) != 0)=true:=by simpa using L
       have K:=Hd j;have Y:=Hd (show(212:Int)≠0 by decide);clear L j;obtain ⟨y,z,B,C,D,E,H,I,J⟩:=i.o.c9;obtain ⟨f0,f1,f2,f3,f4,f5,f6,f7,f8⟩:=i.o.f9;go_wp2;refine bodyPost_ret (v:= .tuple #[.agg #[.slice none 0 0,Aa Ab 0,Aa Ab 0,Aa Ab 0,Aa Ab 0,Aa Ab 0,Aa Ab 0,Aa Ab 0,Aa Ab 0],Aa Ab 212]) (by simp [results,results251,go_sem,y,z,B,C,D,E,H,I,J]) rfl ?_;exact Fi K.o Y.o (Cw _ x.o (Ai _) _ _ _ _ _ _ _ _ _)
      ·have af:((b:Int) % (V:Int) != 0)=false:=by simpa using L
       have K:=Hd j;have Y:=Hd (show(211:Int)≠0 by decide);clear L j
       first
        |(exfalso;omega)
        |skip
       all_goals
        obtain ⟨y,z,B,C,D,E,H,I,J⟩:=i.o.c9;obtain ⟨f0,f1,f2,f3,f4,f5,f6,f7,f8⟩:=i.o.f9;go_wp2;refine bodyPost_ret (v:= .tuple #[.agg #[.slice none 0 0,Aa Ab 0,Aa Ab 0,Aa Ab 0,Aa Ab 0,Aa Ab 0,Aa Ab 0,Aa Ab 0,Aa Ab 0],Aa Ab 211]) (by simp [results,results251,go_sem,y,z,B,C,D,E,H,I,J]) rfl ?_;exact Fi K.o Y.o (Cw _ x.o (Ai _) _ _ _ _ _ _ _ _ _)
      ·have af:((b:Int) % (V:Int) != 0)=false:=by simpa using L
       have K:=Hd j;have Y:=Hd (show(211:Int)≠0 by decide);clear L j;go_wp2_with fail;have ag:=Xy V (by omega);go_region_held3 (fun w'=>(w'.cell? ⟨w.heap.size,0,none⟩=some (Aa Ab p)∧w'.cell? ⟨w.heap.size,1,none⟩=some (Aa Ab q)∧w'.cell? ⟨w.heap.size,2,none⟩=some (Aa Ab t)∧w'.cell? ⟨w.heap.size,3,none⟩=some (Aa Ab V))∧w'.cell? ⟨g,1,none⟩=some (.func (.func 311) #[] #[])∧w'.cell? ⟨g,3,none⟩=some (Aa Ab 0)) (first|exact⟨⟨P,Q,M,R⟩,O,S⟩|exact⟨⟨Bl f.o P,Bl f.o Q,Bl f.o M,Bl f.o R⟩,Bl f.o O,Bl f.o S⟩)
        (first|((go_at_call 311;refine(K6 A _ c p q t V b U l _ (Ez T.o) hc hn (by omega) bb (by rw [←ah.o];exact a9.o)).mono ?_);rintro e w6 ⟨rfl,d⟩;have f:=Hd d;clear d))
       have d:=f.o;clear s0 O S ag;replace k:=Hd (k.o.drew.pure d);replace x:=Hd (Bi x.o.drew d);replace N:=Hd (N.o.drew.pure d);replace i:=Hd (i.o.drew.pure d);replace T:=Hd ((Ez T.o).pure d);clear d f P Q M R;obtain ⟨P,Q,M,R⟩:=N.o.c4;obtain ⟨s0,O⟩:=k.o.c2;have S:_=some _:=k.o.cell 3;by_cases hN:l.length<U
       ·have hd:decide (l.length<U)=true:=decide_eq_true hN;obtain ⟨y,z,B,C,D,E,H,I,J⟩:=i.o.c9;obtain ⟨f0,f1,f2,f3,f4,f5,f6,f7,f8⟩:=i.o.f9;go_wp2;refine bodyPost_ret (v:= .tuple #[.agg #[.slice none 0 0,Aa Ab 0,Aa Ab 0,Aa Ab 0,Aa Ab 0,Aa Ab 0,Aa Ab 0,Aa Ab 0,Aa Ab 0],Aa Ab 211]) (by simp [results,results251,go_sem,y,z,B,C,D,E,H,I,J]) rfl ?_;exact Fi K.o Y.o (Cw _ x.o (Ai _) _ _ _ _ _ _ _ _ _)
       ·have hd:decide (l.length<U)=false:=decide_eq_false hN;have a4:U≤1099511627776:=by omega
        have a5:U*(V+0)≤9895604649984:=Nat.le_trans (Nat.mul_le_mul (show U≤1099511627776 by omega) (show V+0≤9 by omega)) (by decide);obtain⟨X,hX⟩:∃X,U*(V+0)=X:=⟨_,rfl⟩;rw [hX] at h7 a5;have ae:=Hd (show H8 l.length b X=false from decide_eq_false (by omega));have r:=Hd (Pc U V X hX (by omega));clear h7 hX;have s:=r.o;go_wp2_with fail;clear s;go_at_call 246;refine(D5 A _ c b X _ (by omega)).mono ?_;rw [ae.o];rintro e w7 ⟨rfl,rfl⟩;obtain ⟨y,z,B,C,D,E,H,I,J⟩:=i.o.c9;obtain ⟨f0,f1,f2,f3,f4,f5,f6,f7,f8⟩:=i.o.f9;go_wp2;refine bodyPost_ret (v:= .tuple #[.agg #[.slice none 0 0,Aa Ab 0,Aa Ab 0,Aa Ab 0,Aa Ab 0,Aa Ab 0,Aa Ab 0,Aa Ab 0,Aa Ab 0],Aa Ab 211]) (by simp [results,results251,go_sem,y,z,B,C,D,E,H,I,J]) rfl ?_;exact Fi K.o Y.o (Cw _ x.o (Ai _) _ _ _ _ _ _ _ _ _)
      ·have af:((b:Int) % (V:Int) != 0)=false:=by simpa using L
       have K:=Hd j;clear L j;go_wp2_with fail;have ag:=Xy V (by omega);go_region_held3 (fun w'=>(w'.cell? ⟨w.heap.size,0,none⟩=some (Aa Ab p)∧w'.cell? ⟨w.heap.size,1,none⟩=some (Aa Ab q)∧w'.cell? ⟨w.heap.size,2,none⟩=some (Aa Ab t)∧w'.cell? ⟨w.heap.size,3,none⟩=some (Aa Ab V))∧w'.cell? ⟨g,1,none⟩=some (.func (.func 311) #[] #[])∧w'.cell? ⟨g,3,none⟩=some (Aa Ab 0)) (first|exact⟨⟨P,Q,M,R⟩,O,S⟩|exact⟨⟨Bl f.o P,Bl f.o Q,Bl f.o M,Bl f.o R⟩,Bl f.o O,Bl f.o S⟩)
        (first|((go_at_call 311;refine(K6 A _ c p q t V b U l _ (Ez T.o) hc hn (by omega) bb (by rw [←ah.o];exact a9.o)).mono ?_);rintro e w6 ⟨rfl,d⟩;have f:=Hd d;clear d))
       have d:=f.o;clear s0 O S ag;replace k:=Hd (k.o.drew.pure d);replace x:=Hd (Bi x.o.drew d);replace N:=Hd (N.o.drew.pure d);replace i:=Hd (i.o.drew.pure d);replace T:=Hd ((Ez T.o).pure d);clear d f P Q M R;obtain ⟨P,Q,M,R⟩:=N.o.c4;obtain ⟨s0,O⟩:=k.o.c2;have S:_=some _:=k.o.cell 3;have a3:U≤U*(V+0):=Nat.le_mul_of_pos_right _ (by omega);have hN:¬l.length<U:=by omega
       have hd:decide (l.length<U)=false:=decide_eq_false hN;have a4:U≤1099511627776:=by omega
       obtain⟨X,hX⟩:∃X,U*(V+0)=X:=⟨_,rfl⟩;rw [hX] at h7 a3;have ae:=Hd (show H8 l.length b X=true from Eh.2 ⟨by omega,by omega,by omega⟩);have r:=Hd (Pc U V X hX (by omega));have a2:=Hd hX;clear hX;have s:=r.o;go_wp2_with fail;clear s;go_at_call 246;refine(D5 A _ c b X _ (by omega)).mono ?_;rw [ae.o];rintro e w7 ⟨rfl,rfl⟩;have s:=r.o;obtain ⟨y,z,B,C,D,E,H,I,J⟩:=i.o.c9;obtain ⟨f0,f1,f2,f3,f4,f5,f6,f7,f8⟩:=i.o.f9;go_wp2;refine bodyPost_ret (v:= .tuple #[.agg #[.slice A l.length c,Aa Ab p,Aa Ab q,Aa Ab t,Aa Ab V,Aa Ab ((b:Int)-V),Aa Ab b,Aa Ab ((b:Int)+X),Aa Ab U],Aa Ab 0]) (by simp [results,results251,go_sem,y,z,B,C,D,E,H,I,J]) rfl ?_;rw [show(b:Int)-V=((b-1*V:Nat):Int) by omega,←Int.natCast_add];exact T6 K.o (by rw [ah.o,Ay]) (by rw [HA.o,Ay];try omega) bd.o (by rw [a1.o,a2.o]) (Cw _ x.o (Ai _) _ _ _ _ _ _ _ _ _)
    ·rw [hA,hT,az] at e;rw [hA,hT] at m;injection e with e1 e;injection e with e2 e;injection e with e3 e;injection e with e4 e
     subst e1 e2 e3 e4;have ad:=Hd m;have a1:=Hd (show Na t V=V+1 by unfold Na;rw [hT];rfl);have HA:=Hd hA;clear m hA hT az;unfold Lq at k;obtain ⟨s0,O⟩:=k.o.c2;have S:_=some _:=k.o.cell 3;have bl:=Tz 311;go_wp2_with fail;go_at_call 79;refine(Im A _ c p q t V l _ T.o hc (by omega)).mono ?_;rintro e w3 ⟨rfl,Z⟩;clear s0 O S;replace k:=Hd (k.o.pure Z);clear P Q M R;replace x:=Hd (Bi x.o Z);replace N:=Hd (N.o.pure Z);replace i:=Hd (i.o.pure Z);replace T:=Hd (T.o.pure Z);clear Z;obtain ⟨P,Q,M,R⟩:=N.o.c4;rcases ad.o with⟨h1,j⟩|⟨h1,m⟩
     ·have bm:(Ch l p q t V != 0)=true:=by simpa using h1
      have K:=Hd j;have Y:=Hd h1;clear h1 j ad;obtain ⟨y,z,B,C,D,E,H,I,J⟩:=i.o.c9;obtain ⟨f0,f1,f2,f3,f4,f5,f6,f7,f8⟩:=i.o.f9;go_wp2;refine bodyPost_ret (v:= .tuple #[.agg #[.slice none 0 0,Aa Ab 0,Aa Ab 0,Aa Ab 0,Aa Ab 0,Aa Ab 0,Aa Ab 0,Aa Ab 0,Aa Ab 0],Aa Ab (Ch l p q t V)]) (by simp [results,results251,go_sem,y,z,B,C,D,E,H,I,J]) rfl ?_;exact Fi K.o Y.o (Cw _ x.o (Ai _) _ _ _ _ _ _ _ _ _)
     ·have a6:=Tl h1;rw [h1];obtain⟨b,aa⟩:∃b:Nat,Cg l p q t V=b:=⟨(Cg l p q t V).toNat,by omega⟩;rw [aa,Ay] at m;have bu:b≤l.length:=by omega
      have ah:=Hd aa;rw [aa];clear h1 aa a6 ad;obtain ⟨s0,O⟩:=k.o.c2;have S:_=some _:=k.o.cell 3;rcases m with⟨L,j⟩|⟨L,h6,j⟩|⟨L,h6,h7,j⟩|⟨L,h6,h7,j⟩
      ·have af:((b:Int) % (V:Int) != 0)=true:=by simpa using L
       have K:=Hd j;have Y:=Hd (show(212:Int)≠0 by decide);clear L j;obtain ⟨y,z,B,C,D,E,H,I,J⟩:=i.o.c9;obtain ⟨f0,f1,f2,f3,f4,f5,f6,f7,f8⟩:=i.o.f9;go_wp2;refine bodyPost_ret (v:= .tuple #[.agg #[.slice none 0 0,Aa Ab 0,Aa Ab 0,Aa Ab 0,Aa Ab 0,Aa Ab 0,Aa Ab 0,Aa Ab 0,Aa Ab 0],Aa Ab 212]) (by simp [results,results251,go_sem,y,z,B,C,D,E,H,I,J]) rfl ?_;exact Fi K.o Y.o (Cw _ x.o (Ai _) _ _ _ _ _ _ _ _ _)
      ·have af:((b:Int) % (V:Int) != 0)=false:=by simpa using L
       have K:=Hd j;have Y:=Hd (show(211:Int)≠0 by decide);clear L j
       first
        |(exfalso;omega)
        |skip
       all_goals
        obtain ⟨y,z,B,C,D,E,H,I,J⟩:=i.o.c9;obtain ⟨f0,f1,f2,f3,f4,f5,f6,f7,f8⟩:=i.o.f9;go_wp2;refine bodyPost_ret (v:= .tuple #[.agg #[.slice none 0 0,Aa Ab 0,Aa Ab 0,Aa Ab 0,Aa Ab 0,Aa Ab 0,Aa Ab 0,Aa Ab 0,Aa Ab 0],Aa Ab 211]) (by simp [results,results251,go_sem,y,z,B,C,D,E,H,I,J]) rfl ?_;exact Fi K.o Y.o (Cw _ x.o (Ai _) _ _ _ _ _ _ _ _ _)
      ·have af:((b:Int) % (V:Int) != 0)=false:=by simpa using L
       have K:=Hd j;have Y:=Hd (show(211:Int)≠0 by decide);clear L j;go_wp2_with fail;have ag:=Xz V (by omega);go_region_held3 (fun w'=>(w'.cell? ⟨w.heap.size,0,none⟩=some (Aa Ab p)∧w'.cell? ⟨w.heap.size,1,none⟩=some (Aa Ab q)∧w'.cell? ⟨w.heap.size,2,none⟩=some (Aa Ab t)∧w'.cell? ⟨w.heap.size,3,none⟩=some (Aa Ab V))∧w'.cell? ⟨g,1,none⟩=some (.func (.func 311) #[] #[])∧w'.cell? ⟨g,3,none⟩=some (Aa Ab 1)) (first|exact⟨⟨P,Q,M,R⟩,O,S⟩|exact⟨⟨Bl f.o P,Bl f.o Q,Bl f.o M,Bl f.o R⟩,Bl f.o O,Bl f.o S⟩)
        (first|((go_at_call 311;refine(K6 A _ c p q t V b U l _ (Ez T.o) hc hn (by omega) bb (by rw [←ah.o];exact a9.o)).mono ?_);rintro e w6 ⟨rfl,d⟩;have f:=Hd d;clear d))
       have d:=f.o;clear s0 O S ag;replace k:=Hd (k.o.drew.pure d);replace x:=Hd (Bi x.o.drew d);replace N:=Hd (N.o.drew.pure d);replace i:=Hd (i.o.drew.pure d);replace T:=Hd ((Ez T.o).pure d);clear d f P Q M R;obtain ⟨P,Q,M,R⟩:=N.o.c4;obtain ⟨s0,O⟩:=k.o.c2;have S:_=some _:=k.o.cell 3;by_cases hN:l.length<U
       ·have hd:decide (l.length<U)=true:=decide_eq_true hN;obtain ⟨y,z,B,C,D,E,H,I,J⟩:=i.o.c9;obtain ⟨f0,f1,f2,f3,f4,f5,f6,f7,f8⟩:=i.o.f9;go_wp2;refine bodyPost_ret (v:= .tuple #[.agg #[.slice none 0 0,Aa Ab 0,Aa Ab 0,Aa Ab 0,Aa Ab 0,Aa Ab 0,Aa Ab 0,Aa Ab 0,Aa Ab 0],Aa Ab 211]) (by simp [results,results251,go_sem,y,z,B,C,D,E,H,I,J]) rfl ?_;exact Fi K.o Y.o (Cw _ x.o (Ai _) _ _ _ _ _ _ _ _ _)
       ·have hd:decide (l.length<U)=false:=decide_eq_false hN;have a4:U≤1099511627776:=by omega
        have a5:U*(V+1)≤9895604649984:=Nat.le_trans (Nat.mul_le_mul (show U≤1099511627776 by omega) (show V+1≤9 by omega)) (by decide);obtain⟨X,hX⟩:∃X,U*(V+1)=X:=⟨_,rfl⟩;rw [hX] at h7 a5;have ae:=Hd (show H8 l.length b X=false from decide_eq_false (by omega));have r:=Hd (Pd U V X hX (by omega));clear h7 hX;have s:=r.o;go_wp2_with fail;clear s;go_at_call 246;refine(D5 A _ c b X _ (by omega)).mono ?_;rw [ae.o];rintro e w7 ⟨rfl,rfl⟩;obtain ⟨y,z,B,C,D,E,H,I,J⟩:=i.o.c9;obtain ⟨f0,f1,f2,f3,f4,f5,f6,f7,f8⟩:=i.o.f9;go_wp2;refine bodyPost_ret (v:= .tuple #[.agg #[.slice none 0 0,Aa Ab 0,Aa Ab 0,Aa Ab 0,Aa Ab 0,Aa Ab 0,Aa Ab 0,Aa Ab 0,Aa Ab 0],Aa Ab 211]) (by simp [results,results251,go_sem,y,z,B,C,D,E,H,I,J]) rfl ?_;exact Fi K.o Y.o (Cw _ x.o (Ai _) _ _ _ _ _ _ _ _ _)
      ·have af:((b:Int) % (V:Int) != 0)=false:=by simpa using L
       have K:=Hd j;clear L j;go_wp2_with fail;have ag:=Xz V (by omega);go_region_held3 (fun w'=>(w'.cell? ⟨w.heap.size,0,none⟩=some (Aa Ab p)∧w'.cell? ⟨w.heap.size,1,none⟩=some (Aa Ab q)∧w'.cell? ⟨w.heap.size,2,none⟩=some (Aa Ab t)∧w'.cell? ⟨w.heap.size,3,none⟩=some (Aa Ab V))∧w'.cell? ⟨g,1,none⟩=some (.func (.func 311) #[] #[])∧w'.cell? ⟨g,3,none⟩=some (Aa Ab 1)) (first|exact⟨⟨P,Q,M,R⟩,O,S⟩|exact⟨⟨Bl f.o P,Bl f.o Q,Bl f.o M,Bl f.o R⟩,Bl f.o O,Bl f.o S⟩)
        (first|((go_at_call 311;refine(K6 A _ c p q t V b U l _ (Ez T.o) hc hn (by omega) bb (by rw [←ah.o];exact a9.o)).mono ?_);rintro e w6 ⟨rfl,d⟩;have f:=Hd d;clear d))
       have d:=f.o;clear s0 O S ag;replace k:=Hd (k.o.drew.pure d);replace x:=Hd (Bi x.o.drew d);replace N:=Hd (N.o.drew.pure d);replace i:=Hd (i.o.drew.pure d);replace T:=Hd ((Ez T.o).pure d);clear d f P Q M R;obtain ⟨P,Q,M,R⟩:=N.o.c4;obtain ⟨s0,O⟩:=k.o.c2;have S:_=some _:=k.o.cell 3;have a3:U≤U*(V+1):=Nat.le_mul_of_pos_right _ (by omega);have hN:¬l.length<U:=by omega
       have hd:decide (l.length<U)=false:=decide_eq_false hN;have a4:U≤1099511627776:=by omega
       obtain⟨X,hX⟩:∃X,U*(V+1)=X:=⟨_,rfl⟩;rw [hX] at h7 a3;have ae:=Hd (show H8 l.length b X=true from Eh.2 ⟨by omega,by omega,by omega⟩);have r:=Hd (Pd U V X hX (by omega));have a2:=Hd hX;clear hX;have s:=r.o;go_wp2_with fail;clear s;go_at_call 246;refine(D5 A _ c b X _ (by omega)).mono ?_;rw [ae.o];rintro e w7 ⟨rfl,rfl⟩;have s:=r.o;obtain ⟨y,z,B,C,D,E,H,I,J⟩:=i.o.c9;obtain ⟨f0,f1,f2,f3,f4,f5,f6,f7,f8⟩:=i.o.f9;go_wp2;refine bodyPost_ret (v:= .tuple #[.agg #[.slice A l.length c,Aa Ab p,Aa Ab q,Aa Ab t,Aa Ab V,Aa Ab ((b:Int)-V),Aa Ab b,Aa Ab ((b:Int)+X),Aa Ab U],Aa Ab 0]) (by simp [results,results251,go_sem,y,z,B,C,D,E,H,I,J]) rfl ?_;rw [show(b:Int)-V=((b-1*V:Nat):Int) by omega,←Int.natCast_add];exact T6 K.o (by rw [ah.o,Ay]) (by rw [HA.o,Ay];try omega) bd.o (by rw [a1.o,a2.o]) (Cw _ x.o (Ai _) _ _ _ _ _ _ _ _ _)
    ·rw [hA,hT,az] at e;rw [hA,hT] at m;injection e with e1 e;injection e with e2 e;injection e with e3 e;injection e with e4 e
     subst e1 e2 e3 e4;have ad:=Hd m;have a1:=Hd (show Na t V=V+1 by unfold Na;rw [hT];rfl);have HA:=Hd hA;clear m hA hT az;unfold Lq at k;obtain ⟨s0,O⟩:=k.o.c2;have S:_=some _:=k.o.cell 3;have bl:=Tz 311;go_wp2_with fail;go_at_call 79;refine(Im A _ c p q t V l _ T.o hc (by omega)).mono ?_;rintro e w3 ⟨rfl,Z⟩;clear s0 O S;replace k:=Hd (k.o.pure Z);clear P Q M R;replace x:=Hd (Bi x.o Z);replace N:=Hd (N.o.pure Z);replace i:=Hd (i.o.pure Z);replace T:=Hd (T.o.pure Z);clear Z;obtain ⟨P,Q,M,R⟩:=N.o.c4;rcases ad.o with⟨h1,j⟩|⟨h1,m⟩
     ·have bm:(Ch l p q t V != 0)=true:=by simpa using h1
      have K:=Hd j;have Y:=Hd h1;clear h1 j ad;obtain ⟨y,z,B,C,D,E,H,I,J⟩:=i.o.c9;obtain ⟨f0,f1,f2,f3,f4,f5,f6,f7,f8⟩:=i.o.f9;go_wp2;refine bodyPost_ret (v:= .tuple #[.agg #[.slice none 0 0,Aa Ab 0,Aa Ab 0,Aa Ab 0,Aa Ab 0,Aa Ab 0,Aa Ab 0,Aa Ab 0,Aa Ab 0],Aa Ab (Ch l p q t V)]) (by simp [results,results251,go_sem,y,z,B,C,D,E,H,I,J]) rfl ?_;exact Fi K.o Y.o (Cw _ x.o (Ai _) _ _ _ _ _ _ _ _ _)
     ·have a6:=Tl h1;rw [h1];obtain⟨b,aa⟩:∃b:Nat,Cg l p q t V=b:=⟨(Cg l p q t V).toNat,by omega⟩;rw [aa,Ay] at m;have bu:b≤l.length:=by omega
      have ah:=Hd aa;rw [aa];clear h1 aa a6 ad;obtain ⟨s0,O⟩:=k.o.c2;have S:_=some _:=k.o.cell 3;rcases m with⟨L,j⟩|⟨L,h6,j⟩|⟨L,h6,h7,j⟩|⟨L,h6,h7,j⟩
      ·have af:((b:Int) % (V:Int) != 0)=true:=by simpa using L
       have K:=Hd j;have Y:=Hd (show(212:Int)≠0 by decide);clear L j;obtain ⟨y,z,B,C,D,E,H,I,J⟩:=i.o.c9;obtain ⟨f0,f1,f2,f3,f4,f5,f6,f7,f8⟩:=i.o.f9;go_wp2;refine bodyPost_ret (v:= .tuple #[.agg #[.slice none 0 0,Aa Ab 0,Aa Ab 0,Aa Ab 0,Aa Ab 0,Aa Ab 0,Aa Ab 0,Aa Ab 0,Aa Ab 0],Aa Ab 212]) (by simp [results,results251,go_sem,y,z,B,C,D,E,H,I,J]) rfl ?_;exact Fi K.o Y.o (Cw _ x.o (Ai _) _ _ _ _ _ _ _ _ _)
      ·have af:((b:Int) % (V:Int) != 0)=false:=by simpa using L
       have K:=Hd j;have Y:=Hd (show(211:Int)≠0 by decide);clear L j
       first
        |(exfalso;omega)
        |skip
       all_goals
        obtain ⟨y,z,B,C,D,E,H,I,J⟩:=i.o.c9;obtain ⟨f0,f1,f2,f3,f4,f5,f6,f7,f8⟩:=i.o.f9;go_wp2;refine bodyPost_ret (v:= .tuple #[.agg #[.slice none 0 0,Aa Ab 0,Aa Ab 0,Aa Ab 0,Aa Ab 0,Aa Ab 0,Aa Ab 0,Aa Ab 0,Aa Ab 0],Aa Ab 211]) (by simp [results,results251,go_sem,y,z,B,C,D,E,H,I,J]) rfl ?_;exact Fi K.o Y.o (Cw _ x.o (Ai _) _ _ _ _ _ _ _ _ _)
      ·have af:((b:Int) % (V:Int) != 0)=false:=by simpa using L
       have K:=Hd j;have Y:=Hd (show(211:Int)≠0 by decide);clear L j;go_wp2_with fail;have ag:=Xz V (by omega);go_region_held3 (fun w'=>(w'.cell? ⟨w.heap.size,0,none⟩=some (Aa Ab p)∧w'.cell? ⟨w.heap.size,1,none⟩=some (Aa Ab q)∧w'.cell? ⟨w.heap.size,2,none⟩=some (Aa Ab t)∧w'.cell? ⟨w.heap.size,3,none⟩=some (Aa Ab V))∧w'.cell? ⟨g,1,none⟩=some (.func (.func 311) #[] #[])∧w'.cell? ⟨g,3,none⟩=some (Aa Ab 1)) (first|exact⟨⟨P,Q,M,R⟩,O,S⟩|exact⟨⟨Bl f.o P,Bl f.o Q,Bl f.o M,Bl f.o R⟩,Bl f.o O,Bl f.o S⟩)
        (first|((go_at_call 311;refine(K6 A _ c p q t V b U l _ (Ez T.o) hc hn (by omega) bb (by rw [←ah.o];exact a9.o)).mono ?_);rintro e w6 ⟨rfl,d⟩;have f:=Hd d;clear d))
       have d:=f.o;clear s0 O S ag;replace k:=Hd (k.o.drew.pure d);replace x:=Hd (Bi x.o.drew d);replace N:=Hd (N.o.drew.pure d);replace i:=Hd (i.o.drew.pure d);replace T:=Hd ((Ez T.o).pure d);clear d f P Q M R;obtain ⟨P,Q,M,R⟩:=N.o.c4;obtain ⟨s0,O⟩:=k.o.c2;have S:_=some _:=k.o.cell 3;by_cases hN:l.length<U
       ·have hd:decide (l.length<U)=true:=decide_eq_true hN;obtain ⟨y,z,B,C,D,E,H,I,J⟩:=i.o.c9;obtain ⟨f0,f1,f2,f3,f4,f5,f6,f7,f8⟩:=i.o.f9;go_wp2;refine bodyPost_ret (v:= .tuple #[.agg #[.slice none 0 0,Aa Ab 0,Aa Ab 0,Aa Ab 0,Aa Ab 0,Aa Ab 0,Aa Ab 0,Aa Ab 0,Aa Ab 0],Aa Ab 211]) (by simp [results,results251,go_sem,y,z,B,C,D,E,H,I,J]) rfl ?_;exact Fi K.o Y.o (Cw _ x.o (Ai _) _ _ _ _ _ _ _ _ _)
       ·have hd:decide (l.length<U)=false:=decide_eq_false hN;have a4:U≤1099511627776:=by omega
        have a5:U*(V+1)≤9895604649984:=Nat.le_trans (Nat.mul_le_mul (show U≤1099511627776 by omega) (show V+1≤9 by omega)) (by decide);obtain⟨X,hX⟩:∃X,U*(V+1)=X:=⟨_,rfl⟩;rw [hX] at h7 a5;have ae:=Hd (show H8 l.length b X=false from decide_eq_false (by omega));have r:=Hd (Pd U V X hX (by omega));clear h7 hX;have s:=r.o;go_wp2_with fail;clear s;go_at_call 246;refine(D5 A _ c b X _ (by omega)).mono ?_;rw [ae.o];rintro e w7 ⟨rfl,rfl⟩;obtain ⟨y,z,B,C,D,E,H,I,J⟩:=i.o.c9;obtain ⟨f0,f1,f2,f3,f4,f5,f6,f7,f8⟩:=i.o.f9;go_wp2;refine bodyPost_ret (v:= .tuple #[.agg #[.slice none 0 0,Aa Ab 0,Aa Ab 0,Aa Ab 0,Aa Ab 0,Aa Ab 0,Aa Ab 0,Aa Ab 0,Aa Ab 0],Aa Ab 211]) (by simp [results,results251,go_sem,y,z,B,C,D,E,H,I,J]) rfl ?_;exact Fi K.o Y.o (Cw _ x.o (Ai _) _ _ _ _ _ _ _ _ _)
      ·have af:((b:Int) % (V:Int) != 0)=false:=by simpa using L
       have K:=Hd j;clear L j;go_wp2_with fail;have ag:=Xz V (by omega);go_region_held3 (fun w'=>(w'.cell? ⟨w.heap.size,0,none⟩=some (Aa Ab p)∧w'.cell? ⟨w.heap.size,1,none⟩=some (Aa Ab q)∧w'.cell? ⟨w.heap.size,2,none⟩=some (Aa Ab t)∧w'.cell? ⟨w.heap.size,3,none⟩=some (Aa Ab V))∧w'.cell? ⟨g,1,none⟩=some (.func (.func 311) #[] #[])∧w'.cell? ⟨g,3,none⟩=some (Aa Ab 1)) (first|exact⟨⟨P,Q,M,R⟩,O,S⟩|exact⟨⟨Bl f.o P,Bl f.o Q,Bl f.o M,Bl f.o R⟩,Bl f.o O,Bl f.o S⟩)
        (first|((go_at_call 311;refine(K6 A _ c p q t V b U l _ (Ez T.o) hc hn (by omega) bb (by rw [←ah.o];exact a9.o)).mono ?_);rintro e w6 ⟨rfl,d⟩;have f:=Hd d;clear d))
       have d:=f.o;clear s0 O S ag;replace k:=Hd (k.o.drew.pure d);replace x:=Hd (Bi x.o.drew d);replace N:=Hd (N.o.drew.pure d);replace i:=Hd (i.o.drew.pure d);replace T:=Hd ((Ez T.o).pure d);clear d f P Q M R;obtain ⟨P,Q,M,R⟩:=N.o.c4;obtain ⟨s0,O⟩:=k.o.c2;have S:_=some _:=k.o.cell 3;have a3:U≤U*(V+1):=Nat.le_mul_of_pos_right _ (by omega);have hN:¬l.length<U:=by omega
       have hd:decide (l.length<U)=false:=decide_eq_false hN;have a4:U≤1099511627776:=by omega
       obtain⟨X,hX⟩:∃X,U*(V+1)=X:=⟨_,rfl⟩;rw [hX] at h7 a3;have ae:=Hd (show H8 l.length b X=true from Eh.2 ⟨by omega,by omega,by omega⟩);have r:=Hd (Pd U V X hX (by omega));have a2:=Hd hX;clear hX;have s:=r.o;go_wp2_with fail;clear s;go_at_call 246;refine(D5 A _ c b X _ (by omega)).mono ?_;rw [ae.o];rintro e w7 ⟨rfl,rfl⟩;have s:=r.o;obtain ⟨y,z,B,C,D,E,H,I,J⟩:=i.o.c9;obtain ⟨f0,f1,f2,f3,f4,f5,f6,f7,f8⟩:=i.o.f9;go_wp2;refine bodyPost_ret (v:= .tuple #[.agg #[.slice A l.length c,Aa Ab p,Aa Ab q,Aa Ab t,Aa Ab V,Aa Ab ((b:Int)-3*V),Aa Ab b,Aa Ab ((b:Int)+X),Aa Ab U],Aa Ab 0]) (by simp [results,results251,go_sem,y,z,B,C,D,E,H,I,J]) rfl ?_;rw [show(b:Int)-3*V=((b-3*V:Nat):Int) by omega,←Int.natCast_add];exact T6 K.o (by rw [ah.o,Ay]) (by rw [HA.o,Ay];try omega) bd.o (by rw [a1.o,a2.o]) (Cw _ x.o (Ai _) _ _ _ _ _ _ _ _ _)
end Go.Proofs.YtejpbijeifjdeaaGreat
