/- Parts of the proof. -/
import Derived.Test.YtejpbijeifjdeaaGreatQv18
set_option maxHeartbeats 4000000
set_option maxRecDepth 100000
open Go.Value renaming int→Aa
open Go.IntKind renaming i64→Ab
open Nat renaming le_refl→Ae,le_succ→Aj
open Go.RowKit.Below renaming refl→Af
open Go.IntWalk renaming i64_in→Ag
open Int renaming toNat_natCast→Ao
open Go.Proofs.Tryz
open Go.Proofs.Tryz renaming prog→Ad
namespace Go.Proofs.YtejpbijeifjdeaaGreat
open Go.RowKit Go.Acc
variable {l:List UInt8}{p q t v er i:Int}{w w':World}{n a k b D V Q:Nat}
theorem fX(h:Cp l p q t v≠0):lsFrom l p q t v=0∧lsAt l p q t v=0∧lsTo l p q t v=0∧lsLen l p q t v=0:=by
 unfold lsFrom lsAt lsTo lsLen;rw [if_neg h,if_neg h,if_neg h,if_neg h];exact⟨rfl,rfl,rfl,rfl⟩
theorem T0{A:Option Addr}{c:Nat}{e:Ending}(h:fF w A n c l p q t v e w'):
  ∃S:Value,∃a0 a1 a2 a3:Int,e= .returned (.tuple #[.agg #[S,Aa Ab a0,Aa Ab a1,Aa Ab a2,Aa Ab a3,Aa Ab (lsFrom l p q t v:Nat),Aa Ab (lsAt l p q t v:Nat),Aa Ab (lsTo l p q t v:Nat),Aa Ab (lsLen l p q t v:Nat)],Aa Ab (Cp l p q t v)])∧S.oneCell'=true∧
   (Cp l p q t v=0→S= .slice A n c∧a0=p∧a1=q∧a2=t∧a3=v)∧Below w.heap.size w w':=by
 obtain⟨rfl,b⟩:=h;unfold Zj;by_cases a:Cp l p q t v=0
 ·rw [if_pos a];exact⟨_,_,_,_,_,rfl,rfl,fun _=>⟨rfl,rfl,rfl,rfl,rfl⟩,b⟩
 ·obtain⟨d,f,g,i⟩:=fX a;rw [if_neg a,d,f,g,i];exact⟨_,_,_,_,_,rfl,rfl,fun h=>absurd h a,b⟩
theorem Vl(A:Option Addr)(n c:Nat)(p q t v:Int)(l:List UInt8)(w:World)(h:B4 w A n l)(hc:n≤c)(hn:n≤1099511627776):
  Calls Ad 152 #[.slice A n c,.agg (Ab9 p q t v)] w (Ab5 (.tuple #[Aa Ab (lsFrom l p q t v:Nat),Aa Ab (lsAt l p q t v:Nat),Aa Ab (lsTo l p q t v:Nat),Aa Ab (Cp l p q t v)]) w):=by
 have z:=Hd (h.alloc (.cells (Ab9 p q t v) 70));have s:=Hd ((Af w.heap.size w).alloc (Ae _) (.cells (Ab9 p q t v) 70));obtain⟨nf,k⟩:∃x,lsFrom l p q t v=x:=⟨_,rfl⟩;obtain⟨na,i⟩:∃x,lsAt l p q t v=x:=⟨_,rfl⟩;obtain⟨nt,r⟩:∃x,lsTo l p q t v=x:=⟨_,rfl⟩;obtain⟨nl,m⟩:∃x,lsLen l p q t v=x:=⟨_,rfl⟩;obtain⟨H,j⟩:∃x,Cp l p q t v=x:=⟨_,rfl⟩;have f:=Hd k;have b:=Hd i;have g:=Hd r;have u:=Hd m;have d:=Hd j;clear h k i r m j;go_enter func152,ntmps152;go_wp2_with fail;go_at_call 251;refine(P4 A n c p q t v l _ z.o hc hn).mono ?_;intro e I a;obtain⟨S,D,E,F,G,rfl,B,_,y⟩:=T0 a;rw [f.o,b.o,g.o,u.o,d.o];have C:=fun(W:World) (p:Addr)=>run_store Ad W p S .plain B
 replace s:=Hd ((A6 s.o y).alloc (A6 s.o y).size (.cells #[S,Aa Ab D,Aa Ab E,Aa Ab F,Aa Ab G,Aa Ab (nf:Nat),Aa Ab (na:Nat),Aa Ab (nt:Nat),Aa Ab (nl:Nat)] 279));clear y a z B;go_wp2_with fail;go_quiet (fail);go_wp2;refine bodyPost_ret (v:= .tuple #[Aa Ab (nf:Nat),Aa Ab (na:Nat),Aa Ab (nt:Nat),Aa Ab H]) (by simp [results,results152,go_sem]) rfl ⟨?_,below_drewN s.o _⟩;rw [f.o,b.o,g.o,d.o]
theorem oG(A:Option Addr)(n c:Nat)(p q t v:Int)(l:List UInt8)(w:World)(h:B4 w A n l)(hc:n≤c)(hn:n≤1099511627776):
  Calls Ad 153 #[.slice A n c,.agg (Ab9 p q t v)] w (Ab5 (.tuple #[Aa Ab (lsLen l p q t v:Nat),Aa Ab (Cp l p q t v)]) w):=by
 have z:=Hd (h.alloc (.cells (Ab9 p q t v) 70));have m:=Hd ((Af w.heap.size w).alloc (Ae _) (.cells (Ab9 p q t v) 70));obtain⟨nf,i⟩:∃x,lsFrom l p q t v=x:=⟨_,rfl⟩;obtain⟨na,f⟩:∃x,lsAt l p q t v=x:=⟨_,rfl⟩;obtain⟨nt,k⟩:∃x,lsTo l p q t v=x:=⟨_,rfl⟩;obtain⟨nl,j⟩:∃x,lsLen l p q t v=x:=⟨_,rfl⟩;obtain⟨H,g⟩:∃x,Cp l p q t v=x:=⟨_,rfl⟩;have s:=Hd i;have r:=Hd f;have u:=Hd k;have d:=Hd j;have b:=Hd g;clear h i f k j g;go_enter func153,ntmps153;go_wp2_with fail;go_at_call 251;refine(P4 A n c p q t v l _ z.o hc hn).mono ?_;intro e I a;obtain⟨S,D,E,F,G,rfl,B,_,y⟩:=T0 a;rw [s.o,r.o,u.o,d.o,b.o];have C:=fun(W:World) (p:Addr)=>run_store Ad W p S .plain B
 replace m:=Hd ((A6 m.o y).alloc (A6 m.o y).size (.cells #[S,Aa Ab D,Aa Ab E,Aa Ab F,Aa Ab G,Aa Ab (nf:Nat),Aa Ab (na:Nat),Aa Ab (nt:Nat),Aa Ab (nl:Nat)] 279));clear y a z B;go_wp2;go_ret2;rw [d.o,b.o];exact⟨rfl,m.o⟩
theorem vO(h1:t≠11)(h2:t≠12)(h3:t≠14)(h4:t≠36)(h5:t≠16)(h6:t≠19)(h7:t≠22)(h8:t≠17)(h9:t≠20)(h10:t≠23):Fh t=0∧Cr t=0∧Ib t=false:=by
 cases ht:Ig t with
 |false=>
  unfold Fh Cr Ib;rw [Lc ht];exact⟨rfl,rfl,rfl⟩
 |true=>
  have a:=Ez.1 ht;have:t=0∨t=1∨t=2∨t=3∨t=4∨t=5∨t=6∨t=7∨t=8∨t=9∨t=10∨t=13∨t=15∨t=18∨t=21∨t=24∨t=25∨t=26∨t=27∨t=28∨t=29∨t=30∨t=31∨t=32∨t=33∨t=34∨t=35:=by omega
  rcases this with rfl|rfl|rfl|rfl|rfl|rfl|rfl|rfl|rfl|rfl|rfl|rfl|rfl|rfl|rfl|rfl|rfl|rfl|rfl|rfl|rfl|rfl|rfl|rfl|rfl|rfl|rfl <;>exact⟨rfl,rfl,rfl⟩
theorem He(t:Int)(w:World):Calls Ad 185 #[Aa Ab t] w (Ab6 (.tuple #[Aa Ab (Fh t),Aa Ab (Cr t),.bool (Ib t)]) w):=by
 by_cases c:t=11∨t=12∨t=14∨t=36∨t=16∨t=19∨t=22∨t=17∨t=20∨t=23
 ·rcases c with rfl|rfl|rfl|rfl|rfl|rfl|rfl|rfl|rfl|rfl
  all_goals
   go_enter func185,ntmps185;go_wp2;go_ret3;exact⟨rfl,rfl⟩
 ·have b:Fh t=0∧Cr t=0∧Ib t=false:=vO (by omega) (by omega) (by omega) (by omega) (by omega) (by omega) (by omega) (by omega) (by omega) (by omega);have e:(t==11)=false:=beq_eq_false_iff_ne.mpr (by omega);have f:(t==12)=false:=beq_eq_false_iff_ne.mpr (by omega);have g:(t==14)=false:=beq_eq_false_iff_ne.mpr (by omega);have h:(t==36)=false:=beq_eq_false_iff_ne.mpr (by omega);have i:(t==16)=false:=beq_eq_false_iff_ne.mpr (by omega);have j:(t==19)=false:=beq_eq_false_iff_ne.mpr (by omega);have k:(t==22)=false:=beq_eq_false_iff_ne.mpr (by omega);have l:(t==17)=false:=beq_eq_false_iff_ne.mpr (by omega);have m:(t==20)=false:=beq_eq_false_iff_ne.mpr (by omega);have d:(t==23)=false:=beq_eq_false_iff_ne.mpr (by omega);have a:=Hd b;clear c b;go_enter func185,ntmps185;go_wp2;go_ret3;rw [a.o.1,a.o.2.1,a.o.2.2];exact⟨rfl,rfl⟩
theorem D0(t:Int)(w:World):Calls Ad 184 #[Aa Ab t] w (Ab6 (.bool (Dk t)) w):=by
 by_cases h1:t=10
 ·subst h1;go_enter func184,ntmps184;go_wp2;go_ret;exact⟨rfl,rfl⟩
 ·by_cases h2:t=9
  ·subst h2;go_enter func184,ntmps184;go_wp2;go_ret;exact⟨rfl,rfl⟩
  ·have a:(t==10)=false:=beq_eq_false_iff_ne.mpr h1;have b:(t==9)=false:=beq_eq_false_iff_ne.mpr h2;have H:=Hd (show Dk t=false from decide_eq_false (by omega));clear h1 h2;go_enter func184,ntmps184;go_wp2;go_ret;exact⟨Ck H.o.symm,rfl⟩
theorem bG(h:0<Cr t):Ib t=true:=by
 cases ht:Ig t with
 |false=>
  unfold Cr at h;rw [Lc ht] at h;exact absurd h (by decide)
 |true=>
  revert h;refine Lb (p:=fun t=>0<Cr t→Ib t=true) ?_ ht;decide
theorem iJ(t:Int)(w:World):Calls Ad 274 #[Aa Ab t] w (Ab6 (Aa Ab (aheadT t:Nat)) w):=by
 by_cases a:t=9
 ·subst a;go_enter func274,ntmps274;go_wp2;go_ret;exact⟨rfl,rfl⟩
 ·have i:(t==9)=false:=beq_eq_false_iff_ne.mpr a;by_cases d:0<Cr t
  ·have g:Ib t=true:=bG d;have H:=Hd (show aheadT t=0 by unfold aheadT;rw [if_neg a,if_pos d]);have c:=Hd g;clear a g;go_enter func274,ntmps274;go_wp2_with fail;go_at_call 185;refine(He t _).mono ?_;rw [c.o];rintro e h ⟨rfl,rfl⟩;go_wp2;go_ret;rw [H.o];exact⟨rfl,rfl⟩
  ·have H:=Hd (show aheadT t=1 by unfold aheadT;rw [if_neg a,if_neg d]);obtain⟨b,f⟩:∃b,Ib t=b:=⟨_,rfl⟩;have c:=Hd f;clear a f;go_enter func274,ntmps274;go_wp2_with fail;go_at_call 185;refine(He t _).mono ?_;rw [c.o];rintro e h ⟨rfl,rfl⟩;cases b
   all_goals
    go_wp2;go_ret;rw [H.o];exact⟨rfl,rfl⟩
theorem Zr(t:Int)(a:Nat)(w:World)(h:aheadT t=a):Calls Ad 274 #[Aa Ab t] w (Ab6 (Aa Ab (a:Int)) w):=by
 subst h;exact iJ t w
theorem G1(h:aheadT t=a):Calls Ad 274 #[Aa Ab t] w fun e w'=>e= .returned (Aa Ab (a:Int))∧w'=w:=(Zr t a w h).mono fun _ _ ⟨h,e⟩=>⟨h,e.symm⟩
def Xo(w:World)(l:List UInt8)(p q t v:Int)(e:Ending)(w':World):Prop:=
 e= .returned (.tuple #[Aa Ab (lsFrom l p q t v:Nat),Aa Ab (lsAt l p q t v:Nat),Aa Ab (lsTo l p q t v:Nat),Aa Ab (lsLen l p q t v:Nat),Aa Ab (Cp l p q t v)])∧Below w.heap.size w w'
theorem Fu(h:Cp l p q t v=er)(hne:er≠0)(hb:Below w.heap.size w w'):
  Xo w l p q t v (.returned (.tuple #[Aa Ab 0,Aa Ab 0,Aa Ab 0,Aa Ab 0,Aa Ab er])) w':=by
 unfold Xo;obtain⟨e1,e2,e3,e4⟩:=fX (l:=l) (p:=p) (q:=q) (t:=t) (v:=v) (by rw [h];exact hne);rw [h,e1,e2,e3,e4];exact⟨rfl,hb⟩
theorem Sj{f o:Nat}(h:Cp l p q t v=0)(ha:(By l p q t v).toNat=a)(hf:a-aheadT t*v.toNat=f)(hk:Kt l p q t v=k)(ho:a+k*Ku t v=o)(hb:Below w.heap.size w w'):
  Xo w l p q t v (.returned (.tuple #[Aa Ab f,Aa Ab a,Aa Ab o,Aa Ab k,Aa Ab 0])) w':=by
 unfold Xo lsFrom lsAt lsTo lsLen;rw [h,if_pos rfl,if_pos rfl,if_pos rfl,if_pos rfl,ha,hf,hk,ho];exact⟨rfl,hb⟩
theorem G7{y:Nat}(hy:0<y)(h:b≤a):(a-b)/y<k↔a<b+k*y:=by
 rw [Nat.div_lt_iff_lt_mul hy];omega
theorem gR(h:Dk t=true):Ib t=false:=by
 unfold Dk at h;rw [decide_eq_true_eq] at h;rcases h with rfl|rfl <;>rfl
theorem Fp{g:Nat}{t:TypeId}{cs:Array Value}(h:Bb w g t cs)(k:Nat):Bb (w.drewN k) g t cs:=h
theorem N2(h:D/(V+0)=Q)(hD:D≤1099511627776):IntKind.u64.wrap ((D:Int)/(V:Int))=(Q:Int):=by
 rw [Nat.add_zero] at h;have hl:=Nat.div_le_self D V;rw [←Int.natCast_ediv,h];rw [h] at hl;exact Ce _ (by omega)
theorem N3(h:D/(V+1)=Q)(hD:D≤1099511627776):IntKind.u64.wrap ((D:Int)/((V:Int)+1))=(Q:Int):=by
 have hl:=Nat.div_le_self D (V+1);rw [show(V:Int)+1=((V+1:Nat):Int) from rfl,←Int.natCast_ediv,h];rw [h] at hl;exact Ce _ (by omega)
theorem I4(h:n-b=D)(hb:b≤n)(hn:n≤1099511627776):IntKind.u64.wrap ((n:Int)-(b:Int))=(D:Int):=Ce _ (by omega) |>.trans (by omega)
theorem ahead_cases {t : Int} (h : aheadT t = 1 ∨ aheadT t = 3) (hm : Cr t = 0) : (aheadT t = 1 ∧ tgs t = 0 ∧ Dk t = false) ∨ (aheadT t = 1 ∧ tgs t = 1 ∧ Dk t = true) ∨ (aheadT t = 3 ∧ tgs t = 1 ∧ Dk t = true) := by
  unfold aheadT tgs Dk at *
  by_cases h9 : t = 9
  · subst h9
    exact .inr (.inr ⟨rfl, rfl, rfl⟩)
  · rw [if_neg h9, if_neg (by omega)]
    by_cases h10 : t = 10
    · subst h10
      exact .inr (.inl ⟨rfl, rfl, rfl⟩)
    · have e : decide (t = 9 ∨ t = 10) = false := decide_eq_false (by omega)
      rw [e]
      exact .inl ⟨rfl, rfl, rfl⟩
theorem mul_wrap0 (N V X : Nat) (h : N * (V + 0) = X) (hX : X ≤ 9223372036854775807) : wrap64 ((N : Int) * (V : Int)) = (X : Int) := by
  rw [← Int.natCast_mul, ← h, Nat.add_zero]
  rw [Nat.add_zero] at h
  exact C8 _ (by omega)
theorem mul_wrap1 (N V X : Nat) (h : N * (V + 1) = X) (hX : X ≤ 9223372036854775807) : wrap64 ((N : Int) * ((V : Int) + 1)) = (X : Int) := by
  rw [show (V : Int) + 1 = ((V + 1 : Nat) : Int) from rfl, ← Int.natCast_mul, h]
  exact C8 _ (by omega)
theorem Qi(A:Option Addr)(n c:Nat)(p q t v:Int)(l:List UInt8)(w:World)(h:B4 w A n l)(hn:n≤1099511627776):
  Calls Ad 183 #[.slice A n c,.agg (Ab9 p q t v)] w (Xo w l p q t v):=by
 have a4:=h.1;subst a4;have i:=Hd (h.alloc (.cells (Ab9 p q t v) 70));have g:=Hd ((Af w.heap.size w).alloc (Ae _) (.cells (Ab9 p q t v) 70));have f:=Hd (Bb.new w 70 (Ab9 p q t v));have k:=M8 l p q t v;clear h;go_enter func183,ntmps183;go_wp2_with fail;go_at_call 179;refine(Lx A _ c p q t v _ (by omega)).mono ?_;generalize w.alloc (.cells (Ab9 p q t v) 70)=wB at i g f⊢;obtain ⟨u,x,y,z⟩:=f.o.c4;rintro e w1 ⟨rfl,m⟩;clear u x y z;replace g:=Hd (A6 g.o m);replace f:=Hd (f.o.pure m);replace i:=Hd (i.o.pure m);clear m;obtain ⟨u,x,y,z⟩:=f.o.c4;rcases k with⟨hm,j⟩|⟨hm,k⟩
 ·have B:=Hd j;have F:=Hd hm;have ax:(Cc l.length p q t v != 0)=true:=by simpa using hm
  clear j hm;go_wp2;refine bodyPost_ret (v:= .tuple #[Aa Ab 0,Aa Ab 0,Aa Ab 0,Aa Ab 0,Aa Ab (Cc l.length p q t v)]) (by simp [results,results183,go_sem]) rfl ?_;exact Fu B.o F.o g.o
 ·obtain⟨g1,g2⟩:=Dy.1 hm;have g1:=Cz.1 g1;have v1:=B6.1 g1.2.2;have ht:=Hv g1.1;rw [hm];obtain⟨V,rfl⟩:∃V:Nat,v=V:=⟨v.toNat,by omega⟩;have bf:1≤V:=by omega
  have bg:V≤8:=by omega
  have bh:(V==0)=false:=beq_eq_false_iff_ne.mpr (by omega);have al:=Hd k;have a8:=Xe ht;clear g1 g2 v1 k hm ht;rcases a8 with⟨hL,_⟩|⟨hL,hM,a7,hT,hA,_⟩|⟨hL,hM,hA,_⟩
  ·have j:Cp l p q t V=60:=by
    rcases al.o with⟨_,e⟩|⟨h,_⟩
    ·exact e
    ·rw [hL] at h;cases h
   have B:=Hd j;have F:=Hd (show(60:Int)≠0 by decide);have HV:=Hd (show Ib t=false by unfold Iq at hL;rw [Bool.or_eq_false_iff] at hL;exact hL.2);have J:=Hd (show Dk t=false by unfold Iq at hL;rw [Bool.or_eq_false_iff] at hL;exact hL.1);clear j hL al;go_wp2_with fail;go_at_call 185;refine(He t _).mono ?_;rw [HV.o];rintro e w9 ⟨rfl,rfl⟩;go_wp2_with fail;go_at_call 184;refine(D0 t _).mono ?_;rw [J.o];rintro e w9 ⟨rfl,rfl⟩;go_wp2;refine bodyPost_ret (v:= .tuple #[Aa Ab 0,Aa Ab 0,Aa Ab 0,Aa Ab 0,Aa Ab 60]) (by simp [results,results183,go_sem]) rfl ?_;exact Fu B.o F.o g.o
  ·obtain⟨MM,az⟩:∃MM:Nat,Cr t=MM:=⟨(Cr t).toNat,by omega⟩;have au:Kt l p q t V=MM:=by unfold Kt;rw [if_pos hM,az];rfl
   have av:Ku t V=V+0:=by unfold Ku tgs;rw [hT];rfl
   have ap:=Hd az;have bb:MM≤4:=by omega
   have ba:1≤MM:=by omega
   have HV:=Hd (bG hM);have J:=Hd hT;have k:(B8 l p q t V≠0∧Cp l p q t V=B8 l p q t V)∨(B8 l p q t V=0∧
     ((By l p q t V % V≠0∧Cp l p q t V=212)∨(By l p q t V % V=0∧(By l p q t V).toNat<0*V∧Cp l p q t V=211)∨
     (By l p q t V % V=0∧0*V≤(By l p q t V).toNat∧l.length<(By l p q t V).toNat+MM*(V+0)∧Cp l p q t V=211)∨
     (By l p q t V % V=0∧0*V≤(By l p q t V).toNat∧(By l p q t V).toNat+MM*(V+0)≤l.length∧Cp l p q t V=0))):=by
    rcases al.o with⟨h,_⟩|⟨_,h⟩
    ·rw [hL] at h;cases h
    ·rw [au,av,hA,Ao] at h;exact h
   have G:=Hd k;have ao:=Hd au;have ab:=Hd av;have W:=Hd hA;clear k au av hL hM a7 hT hA al az;have be:(MM==0)=false:=beq_eq_false_iff_ne.mpr (by omega);go_wp2_with fail;go_at_call 185;refine(He t _).mono ?_;rw [HV.o,ap.o];rintro e w9 ⟨rfl,rfl⟩
   skip
   go_wp2_with fail;go_at_call 99;refine(Fj A _ c p q t V l _ i.o (by omega)).mono ?_;rintro e w3 ⟨rfl,m⟩;clear u x y z;replace g:=Hd (A6 g.o m);replace f:=Hd (f.o.pure m);replace i:=Hd (i.o.pure m);clear m;obtain ⟨u,x,y,z⟩:=f.o.c4;rcases G.o with⟨h1,j⟩|⟨h1,k⟩
   ·have ax:(B8 l p q t V != 0)=true:=by simpa using h1
    have B:=Hd j;have F:=Hd h1;clear h1 j G;go_wp2;refine bodyPost_ret (v:= .tuple #[Aa Ab 0,Aa Ab 0,Aa Ab 0,Aa Ab 0,Aa Ab (B8 l p q t V)]) (by simp [results,results183,go_sem]) rfl ?_;exact Fu B.o F.o g.o
   ·have ai:=O7 h1;rw [h1];obtain⟨b,C⟩:∃b:Nat,By l p q t V=b:=⟨(By l p q t V).toNat,by omega⟩;rw [C,Ao] at k;have E:b≤l.length:=by omega
    have N:=Hd C;rw [C];clear h1 C ai G;rcases k with⟨r,j⟩|⟨r,h6,j⟩|⟨r,h6,Y,j⟩|⟨r,h6,Y,j⟩
    ·have M:((b:Int) % (V:Int) != 0)=true:=by simpa using r
     have B:=Hd j;have F:=Hd (show(212:Int)≠0 by decide);clear r j;go_wp2;refine bodyPost_ret (v:= .tuple #[Aa Ab 0,Aa Ab 0,Aa Ab 0,Aa Ab 0,Aa Ab 212]) (by simp [results,results183,go_sem]) rfl ?_;exact Fu B.o F.o g.o
    ·have M:((b:Int) % (V:Int) != 0)=false:=by simpa using r
     have B:=Hd j;have F:=Hd (show(211:Int)≠0 by decide);clear r j
     first
      |(exfalso;omega)
      |skip
     all_goals
      (have a:=True;have d:=True)
      go_wp2_with fail;go_quiet ((go_at_call 274;exact Calls.quiet_of_same (G1 W.o)));clear a d;clear u x y z;replace g:=Hd (below_drewN g.o nq);replace f:=Hd (Fp f.o nq);replace i:=Hd (i.o.drewN nq);generalize w3.drewN nq=w4 at g f i⊢;obtain ⟨u,x,y,z⟩:=f.o.c4;go_wp2;refine bodyPost_ret (v:= .tuple #[Aa Ab 0,Aa Ab 0,Aa Ab 0,Aa Ab 0,Aa Ab 211]) (by simp [results,results183,go_sem]) rfl ?_;exact Fu B.o F.o g.o
    ·have M:((b:Int) % (V:Int) != 0)=false:=by simpa using r
     have B:=Hd j;have F:=Hd (show(211:Int)≠0 by decide);clear r j;have s:(l.length-b)/(V+0)<MM:=(G7 (by omega) E).2 Y
     (have a:=True;have d:=True)
     go_wp2_with fail;go_quiet ((go_at_call 274;exact Calls.quiet_of_same (G1 W.o)));clear a d;clear u x y z;replace g:=Hd (below_drewN g.o nq);replace f:=Hd (Fp f.o nq);replace i:=Hd (i.o.drewN nq);generalize w3.drewN nq=w4 at g f i⊢;obtain ⟨u,x,y,z⟩:=f.o.c4;obtain⟨D,K⟩:∃D,l.length-b=D:=⟨_,rfl⟩;obtain⟨Q,L⟩:∃Q,D/(V+0)=Q:=⟨_,rfl⟩;have H:=Hd (I4 K E hn);have I:=Hd (N2 L (by omega));rw [K,L] at s;clear K L;have ah:=decide_eq_true s;go_wp2_with fail
     skip
     go_at_call 184;refine(D0 t _).mono ?_;rw [J.o];rintro e w9 ⟨rfl,rfl⟩;have S:=H.o;have T:=I.o;go_wp2;refine bodyPost_ret (v:= .tuple #[Aa Ab 0,Aa Ab 0,Aa Ab 0,Aa Ab 0,Aa Ab 211]) (by simp [results,results183,go_sem]) rfl ?_;exact Fu B.o F.o g.o
    ·have M:((b:Int) % (V:Int) != 0)=false:=by simpa using r
     have B:=Hd j;clear r j;have s:¬(l.length-b)/(V+0)<MM:=fun h=>Nat.not_lt.mpr Y ((G7 (by omega) E).1 h)
     have af:MM≤MM*(V+0):=Nat.le_mul_of_pos_right _ (by omega);have a0:MM≤1099511627776:=by omega
     obtain⟨X,Z⟩:∃X,MM*(V+0)=X:=⟨_,rfl⟩;rw [Z] at Y af;have P:=Hd (mul_wrap0 MM V X Z (by omega));have ad:=Hd Z;clear Z;have ar:(b:Int)+X≤1099511627776:=by omega
     (have a:=True;have d:=True)
     go_wp2_with fail;go_quiet ((go_at_call 274;exact Calls.quiet_of_same (G1 W.o)));clear a d;clear u x y z;replace g:=Hd (below_drewN g.o nq);replace f:=Hd (Fp f.o nq);replace i:=Hd (i.o.drewN nq);generalize w3.drewN nq=w4 at g f i⊢;obtain ⟨u,x,y,z⟩:=f.o.c4;obtain⟨D,K⟩:∃D,l.length-b=D:=⟨_,rfl⟩;obtain⟨Q,L⟩:∃Q,D/(V+0)=Q:=⟨_,rfl⟩;have H:=Hd (I4 K E hn);have I:=Hd (N2 L (by omega));rw [K,L] at s;clear K L;have ah:=decide_eq_false s;go_wp2_with fail
     skip
     go_at_call 184;refine(D0 t _).mono ?_;rw [J.o];rintro e w9 ⟨rfl,rfl⟩;have S:=H.o;have T:=I.o;have R:=P.o;go_wp2;clear R S T;refine bodyPost_ret (v:= .tuple #[Aa Ab (b:Int),Aa Ab b,Aa Ab ((b:Int)+X),Aa Ab MM,Aa Ab 0]) (by simp [results,results183,go_sem]) rfl ?_;rw [←Int.natCast_add];exact Sj B.o (by rw [N.o,Ao]) (by rw [W.o,Ao];try omega) ao.o (by rw [ab.o,ad.o]) g.o
  ·have k:(B8 l p q t V≠0∧Cp l p q t V=B8 l p q t V)∨(B8 l p q t V=0∧
     ((By l p q t V % V≠0∧Cp l p q t V=212)∨(By l p q t V % V=0∧(By l p q t V).toNat<aheadT t*V∧Cp l p q t V=211)∨
     (By l p q t V % V=0∧aheadT t*V≤(By l p q t V).toNat∧l.length<(By l p q t V).toNat+Kt l p q t V*(V+tgs t)∧Cp l p q t V=211)∨
     (By l p q t V % V=0∧aheadT t*V≤(By l p q t V).toNat∧(By l p q t V).toNat+Kt l p q t V*(V+tgs t)≤l.length∧Cp l p q t V=0))):=by
    rcases al.o with⟨h,_⟩|⟨_,h⟩
    ·rw [hL] at h;cases h
    ·unfold Ku at h;rw [Ao] at h;exact h
   have a3:Kt l p q t V=loadU l (By l p q t V-V) V:=by unfold Kt;rw [if_neg (by omega)]
   obtain⟨U,hU⟩:∃U,Kt l p q t V=U:=⟨_,rfl⟩;have ao:=Hd hU;have am:=Hd (a3.symm.trans hU);rw [hU] at k;have a9:(aheadT t=1∧tgs t=0∧Dk t=false)∨(aheadT t=1∧tgs t=1∧Dk t=true)∨(aheadT t=3∧tgs t=1∧Dk t=true):=ahead_cases hA hM;have ap:=Hd hM;have an:=hL;clear hU a3 hL hM hA al;rcases a9 with⟨hA,hT,O⟩|⟨hA,hT,O⟩|⟨hA,hT,O⟩
   ·rw [hA,hT] at k;have G:=Hd k;have ab:=Hd (show Ku t V=V+0 by unfold Ku;rw [hT];rfl);have W:=Hd hA;have J:=Hd O;have HV:=Hd (show Ib t=true by unfold Iq at an;unfold Dk at O;rw [O,Bool.false_or] at an;exact an);clear k hA hT O an;go_wp2_with fail;go_at_call 185;refine(He t _).mono ?_;rw [HV.o,ap.o];rintro e w9 ⟨rfl,rfl⟩
    skip
    go_wp2_with fail;go_at_call 99;refine(Fj A _ c p q t V l _ i.o (by omega)).mono ?_;rintro e w3 ⟨rfl,m⟩;clear u x y z;replace g:=Hd (A6 g.o m);replace f:=Hd (f.o.pure m);replace i:=Hd (i.o.pure m);clear m;obtain ⟨u,x,y,z⟩:=f.o.c4;rcases G.o with⟨h1,j⟩|⟨h1,k⟩
    ·have ax:(B8 l p q t V != 0)=true:=by simpa using h1
     have B:=Hd j;have F:=Hd h1;clear h1 j G;go_wp2;refine bodyPost_ret (v:= .tuple #[Aa Ab 0,Aa Ab 0,Aa Ab 0,Aa Ab 0,Aa Ab (B8 l p q t V)]) (by simp [results,results183,go_sem]) rfl ?_;exact Fu B.o F.o g.o
    ·have ai:=O7 h1;rw [h1];obtain⟨b,C⟩:∃b:Nat,By l p q t V=b:=⟨(By l p q t V).toNat,by omega⟩;rw [C,Ao] at k;have E:b≤l.length:=by omega
     have N:=Hd C;rw [C];clear h1 C ai G;rcases k with⟨r,j⟩|⟨r,h6,j⟩|⟨r,h6,Y,j⟩|⟨r,h6,Y,j⟩
     ·have M:((b:Int) % (V:Int) != 0)=true:=by simpa using r
      have B:=Hd j;have F:=Hd (show(212:Int)≠0 by decide);clear r j;go_wp2;refine bodyPost_ret (v:= .tuple #[Aa Ab 0,Aa Ab 0,Aa Ab 0,Aa Ab 0,Aa Ab 212]) (by simp [results,results183,go_sem]) rfl ?_;exact Fu B.o F.o g.o
     ·have M:((b:Int) % (V:Int) != 0)=false:=by simpa using r
      have B:=Hd j;have F:=Hd (show(211:Int)≠0 by decide);clear r j
      first
       |(exfalso;omega)
       |skip
      all_goals
       (have hsum:IntKind.i64.wrap (V:Int)=V∧IntKind.i64.wrap ((b:Int)-(V:Int))=(b:Int)-V:=⟨Ag _ (by omega),Ag _ (by omega)⟩;have a:=hsum.1;have d:=hsum.2;clear hsum)
       go_wp2_with fail;go_quiet ((go_at_call 274;exact Calls.quiet_of_same (G1 W.o)));clear a d;clear u x y z;replace g:=Hd (below_drewN g.o nq);replace f:=Hd (Fp f.o nq);replace i:=Hd (i.o.drewN nq);generalize w3.drewN nq=w4 at g f i⊢;obtain ⟨u,x,y,z⟩:=f.o.c4;go_wp2;refine bodyPost_ret (v:= .tuple #[Aa Ab 0,Aa Ab 0,Aa Ab 0,Aa Ab 0,Aa Ab 211]) (by simp [results,results183,go_sem]) rfl ?_;exact Fu B.o F.o g.o
     ·have M:((b:Int) % (V:Int) != 0)=false:=by simpa using r
      have B:=Hd j;have F:=Hd (show(211:Int)≠0 by decide);clear r j;have s:(l.length-b)/(V+0)<U:=(G7 (by omega) E).2 Y
      (have hsum:IntKind.i64.wrap (V:Int)=V∧IntKind.i64.wrap ((b:Int)-(V:Int))=(b:Int)-V:=⟨Ag _ (by omega),Ag _ (by omega)⟩;have a:=hsum.1;have d:=hsum.2;clear hsum)
      go_wp2_with fail;go_quiet ((go_at_call 274;exact Calls.quiet_of_same (G1 W.o)));clear a d;clear u x y z;replace g:=Hd (below_drewN g.o nq);replace f:=Hd (Fp f.o nq);replace i:=Hd (i.o.drewN nq);generalize w3.drewN nq=w4 at g f i⊢;obtain ⟨u,x,y,z⟩:=f.o.c4;obtain⟨D,K⟩:∃D,l.length-b=D:=⟨_,rfl⟩;obtain⟨Q,L⟩:∃Q,D/(V+0)=Q:=⟨_,rfl⟩;have H:=Hd (I4 K E hn);have I:=Hd (N2 L (by omega));rw [K,L] at s;clear K L;have ah:=decide_eq_true s;go_wp2_with fail
      (go_at_call 176;refine(Ea A _ c ((b:Int)-V) V l _ (Bz l.length ((b:Int)-V) V) U i.o (by omega) rfl (by rw [←N.o];exact am.o)).mono ?_;rintro e w8 ⟨rfl,m⟩;clear u x y z;replace g:=Hd (A6 g.o m);replace f:=Hd (f.o.pure m);replace i:=Hd (i.o.pure m);clear m;obtain ⟨u,x,y,z⟩:=f.o.c4;go_wp2_with fail)
      go_at_call 184;refine(D0 t _).mono ?_;rw [J.o];rintro e w9 ⟨rfl,rfl⟩;have S:=H.o;have T:=I.o;go_wp2;refine bodyPost_ret (v:= .tuple #[Aa Ab 0,Aa Ab 0,Aa Ab 0,Aa Ab 0,Aa Ab 211]) (by simp [results,results183,go_sem]) rfl ?_;exact Fu B.o F.o g.o
     ·have M:((b:Int) % (V:Int) != 0)=false:=by simpa using r
      have B:=Hd j;clear r j;have s:¬(l.length-b)/(V+0)<U:=fun h=>Nat.not_lt.mpr Y ((G7 (by omega) E).1 h)
      have af:U≤U*(V+0):=Nat.le_mul_of_pos_right _ (by omega);have a0:U≤1099511627776:=by omega
      obtain⟨X,Z⟩:∃X,U*(V+0)=X:=⟨_,rfl⟩;rw [Z] at Y af;have P:=Hd (mul_wrap0 U V X Z (by omega));have ad:=Hd Z;clear Z;have ar:(b:Int)+X≤1099511627776:=by omega
      (have hsum:IntKind.i64.wrap (V:Int)=V∧IntKind.i64.wrap ((b:Int)-(V:Int))=(b:Int)-V:=⟨Ag _ (by omega),Ag _ (by omega)⟩;have a:=hsum.1;have d:=hsum.2;clear hsum)
      go_wp2_with fail;go_quiet ((go_at_call 274;exact Calls.quiet_of_same (G1 W.o)));clear a d;clear u x y z;replace g:=Hd (below_drewN g.o nq);replace f:=Hd (Fp f.o nq);replace i:=Hd (i.o.drewN nq);generalize w3.drewN nq=w4 at g f i⊢;obtain ⟨u,x,y,z⟩:=f.o.c4;obtain⟨D,K⟩:∃D,l.length-b=D:=⟨_,rfl⟩;obtain⟨Q,L⟩:∃Q,D/(V+0)=Q:=⟨_,rfl⟩;have H:=Hd (I4 K E hn);have I:=Hd (N2 L (by omega));rw [K,L] at s;clear K L;have ah:=decide_eq_false s;go_wp2_with fail
      (go_at_call 176;refine(Ea A _ c ((b:Int)-V) V l _ (Bz l.length ((b:Int)-V) V) U i.o (by omega) rfl (by rw [←N.o];exact am.o)).mono ?_;rintro e w8 ⟨rfl,m⟩;clear u x y z;replace g:=Hd (A6 g.o m);replace f:=Hd (f.o.pure m);replace i:=Hd (i.o.pure m);clear m;obtain ⟨u,x,y,z⟩:=f.o.c4;go_wp2_with fail)
      go_at_call 184;refine(D0 t _).mono ?_;rw [J.o];rintro e w9 ⟨rfl,rfl⟩;have S:=H.o;have T:=I.o;have R:=P.o;go_wp2;clear R S T;refine bodyPost_ret (v:= .tuple #[Aa Ab ((b:Int)-V),Aa Ab b,Aa Ab ((b:Int)+X),Aa Ab U,Aa Ab 0]) (by simp [results,results183,go_sem]) rfl ?_;rw [show((b:Int)-V)=((b-1*V:Nat):Int) by omega,←Int.natCast_add];exact Sj B.o (by rw [N.o,Ao]) (by rw [W.o,Ao];try omega) ao.o (by rw [ab.o,ad.o]) g.o
   ·rw [hA,hT] at k;have G:=Hd k;have ab:=Hd (show Ku t V=V+1 by unfold Ku;rw [hT];rfl);have W:=Hd hA;have J:=Hd O;have HV:=Hd (gR O);clear k hA hT O an;go_wp2_with fail;go_at_call 185;refine(He t _).mono ?_;rw [HV.o,ap.o];rintro e w9 ⟨rfl,rfl⟩
    (go_wp2_with fail;go_at_call 184;refine(D0 t _).mono ?_;rw [J.o];rintro e w9 ⟨rfl,rfl⟩)
    go_wp2_with fail;go_at_call 99;refine(Fj A _ c p q t V l _ i.o (by omega)).mono ?_;rintro e w3 ⟨rfl,m⟩;clear u x y z;replace g:=Hd (A6 g.o m);replace f:=Hd (f.o.pure m);replace i:=Hd (i.o.pure m);clear m;obtain ⟨u,x,y,z⟩:=f.o.c4;rcases G.o with⟨h1,j⟩|⟨h1,k⟩
    ·have ax:(B8 l p q t V != 0)=true:=by simpa using h1
     have B:=Hd j;have F:=Hd h1;clear h1 j G;go_wp2;refine bodyPost_ret (v:= .tuple #[Aa Ab 0,Aa Ab 0,Aa Ab 0,Aa Ab 0,Aa Ab (B8 l p q t V)]) (by simp [results,results183,go_sem]) rfl ?_;exact Fu B.o F.o g.o
    ·have ai:=O7 h1;rw [h1];obtain⟨b,C⟩:∃b:Nat,By l p q t V=b:=⟨(By l p q t V).toNat,by omega⟩;rw [C,Ao] at k;have E:b≤l.length:=by omega
     have N:=Hd C;rw [C];clear h1 C ai G;rcases k with⟨r,j⟩|⟨r,h6,j⟩|⟨r,h6,Y,j⟩|⟨r,h6,Y,j⟩
     ·have M:((b:Int) % (V:Int) != 0)=true:=by simpa using r
      have B:=Hd j;have F:=Hd (show(212:Int)≠0 by decide);clear r j;go_wp2;refine bodyPost_ret (v:= .tuple #[Aa Ab 0,Aa Ab 0,Aa Ab 0,Aa Ab 0,Aa Ab 212]) (by simp [results,results183,go_sem]) rfl ?_;exact Fu B.o F.o g.o
     ·have M:((b:Int) % (V:Int) != 0)=false:=by simpa using r
      have B:=Hd j;have F:=Hd (show(211:Int)≠0 by decide);clear r j
      first
       |(exfalso;omega)
       |skip
      all_goals
       (have hsum:IntKind.i64.wrap (V:Int)=V∧IntKind.i64.wrap ((b:Int)-(V:Int))=(b:Int)-V:=⟨Ag _ (by omega),Ag _ (by omega)⟩;have a:=hsum.1;have d:=hsum.2;clear hsum)
       go_wp2_with fail;go_quiet ((go_at_call 274;exact Calls.quiet_of_same (G1 W.o)));clear a d;clear u x y z;replace g:=Hd (below_drewN g.o nq);replace f:=Hd (Fp f.o nq);replace i:=Hd (i.o.drewN nq);generalize w3.drewN nq=w4 at g f i⊢;obtain ⟨u,x,y,z⟩:=f.o.c4;go_wp2;refine bodyPost_ret (v:= .tuple #[Aa Ab 0,Aa Ab 0,Aa Ab 0,Aa Ab 0,Aa Ab 211]) (by simp [results,results183,go_sem]) rfl ?_;exact Fu B.o F.o g.o
     ·have M:((b:Int) % (V:Int) != 0)=false:=by simpa using r
      have B:=Hd j;have F:=Hd (show(211:Int)≠0 by decide);clear r j;have s:(l.length-b)/(V+1)<U:=(G7 (by omega) E).2 Y
      (have hsum:IntKind.i64.wrap (V:Int)=V∧IntKind.i64.wrap ((b:Int)-(V:Int))=(b:Int)-V:=⟨Ag _ (by omega),Ag _ (by omega)⟩;have a:=hsum.1;have d:=hsum.2;clear hsum)
      go_wp2_with fail;go_quiet ((go_at_call 274;exact Calls.quiet_of_same (G1 W.o)));clear a d;clear u x y z;replace g:=Hd (below_drewN g.o nq);replace f:=Hd (Fp f.o nq);replace i:=Hd (i.o.drewN nq);generalize w3.drewN nq=w4 at g f i⊢;obtain ⟨u,x,y,z⟩:=f.o.c4;obtain⟨D,K⟩:∃D,l.length-b=D:=⟨_,rfl⟩;obtain⟨Q,L⟩:∃Q,D/(V+1)=Q:=⟨_,rfl⟩;have H:=Hd (I4 K E hn);have I:=Hd (N3 L (by omega));rw [K,L] at s;clear K L;have ah:=decide_eq_true s;go_wp2_with fail
      (go_at_call 176;refine(Ea A _ c ((b:Int)-V) V l _ (Bz l.length ((b:Int)-V) V) U i.o (by omega) rfl (by rw [←N.o];exact am.o)).mono ?_;rintro e w8 ⟨rfl,m⟩;clear u x y z;replace g:=Hd (A6 g.o m);replace f:=Hd (f.o.pure m);replace i:=Hd (i.o.pure m);clear m;obtain ⟨u,x,y,z⟩:=f.o.c4;go_wp2_with fail)
      go_at_call 184;refine(D0 t _).mono ?_;rw [J.o];rintro e w9 ⟨rfl,rfl⟩;have S:=H.o;have T:=I.o;go_wp2;refine bodyPost_ret (v:= .tuple #[Aa Ab 0,Aa Ab 0,Aa Ab 0,Aa Ab 0,Aa Ab 211]) (by simp [results,results183,go_sem]) rfl ?_;exact Fu B.o F.o g.o
     ·have M:((b:Int) % (V:Int) != 0)=false:=by simpa using r
      have B:=Hd j;clear r j;have s:¬(l.length-b)/(V+1)<U:=fun h=>Nat.not_lt.mpr Y ((G7 (by omega) E).1 h)
      have af:U≤U*(V+1):=Nat.le_mul_of_pos_right _ (by omega);have a0:U≤1099511627776:=by omega
      obtain⟨X,Z⟩:∃X,U*(V+1)=X:=⟨_,rfl⟩;rw [Z] at Y af;have P:=Hd (mul_wrap1 U V X Z (by omega));have ad:=Hd Z;clear Z;have ar:(b:Int)+X≤1099511627776:=by omega
      (have hsum:IntKind.i64.wrap (V:Int)=V∧IntKind.i64.wrap ((b:Int)-(V:Int))=(b:Int)-V:=⟨Ag _ (by omega),Ag _ (by omega)⟩;have a:=hsum.1;have d:=hsum.2;clear hsum)
      go_wp2_with fail;go_quiet ((go_at_call 274;exact Calls.quiet_of_same (G1 W.o)));clear a d;clear u x y z;replace g:=Hd (below_drewN g.o nq);replace f:=Hd (Fp f.o nq);replace i:=Hd (i.o.drewN nq);generalize w3.drewN nq=w4 at g f i⊢;obtain ⟨u,x,y,z⟩:=f.o.c4;obtain⟨D,K⟩:∃D,l.length-b=D:=⟨_,rfl⟩;obtain⟨Q,L⟩:∃Q,D/(V+1)=Q:=⟨_,rfl⟩;have H:=Hd (I4 K E hn);have I:=Hd (N3 L (by omega));rw [K,L] at s;clear K L;have ah:=decide_eq_false s;go_wp2_with fail
      (go_at_call 176;refine(Ea A _ c ((b:Int)-V) V l _ (Bz l.length ((b:Int)-V) V) U i.o (by omega) rfl (by rw [←N.o];exact am.o)).mono ?_;rintro e w8 ⟨rfl,m⟩;clear u x y z;replace g:=Hd (A6 g.o m);replace f:=Hd (f.o.pure m);replace i:=Hd (i.o.pure m);clear m;obtain ⟨u,x,y,z⟩:=f.o.c4;go_wp2_with fail)
      go_at_call 184;refine(D0 t _).mono ?_;rw [J.o];rintro e w9 ⟨rfl,rfl⟩;have S:=H.o;have T:=I.o;have R:=P.o;go_wp2;clear R S T;refine bodyPost_ret (v:= .tuple #[Aa Ab ((b:Int)-V),Aa Ab b,Aa Ab ((b:Int)+X),Aa Ab U,Aa Ab 0]) (by simp [results,results183,go_sem]) rfl ?_;rw [show((b:Int)-V)=((b-1*V:Nat):Int) by omega,←Int.natCast_add];exact Sj B.o (by rw [N.o,Ao]) (by rw [W.o,Ao];try omega) ao.o (by rw [ab.o,ad.o]) g.o
   ·rw [hA,hT] at k;have G:=Hd k;have ab:=Hd (show Ku t V=V+1 by unfold Ku;rw [hT];rfl);have W:=Hd hA;have J:=Hd O;have HV:=Hd (gR O);clear k hA hT O an;go_wp2_with fail;go_at_call 185;refine(He t _).mono ?_;rw [HV.o,ap.o];rintro e w9 ⟨rfl,rfl⟩
    (go_wp2_with fail;go_at_call 184;refine(D0 t _).mono ?_;rw [J.o];rintro e w9 ⟨rfl,rfl⟩)
    go_wp2_with fail;go_at_call 99;refine(Fj A _ c p q t V l _ i.o (by omega)).mono ?_;rintro e w3 ⟨rfl,m⟩;clear u x y z;replace g:=Hd (A6 g.o m);replace f:=Hd (f.o.pure m);replace i:=Hd (i.o.pure m);clear m;obtain ⟨u,x,y,z⟩:=f.o.c4;rcases G.o with⟨h1,j⟩|⟨h1,k⟩
    ·have ax:(B8 l p q t V != 0)=true:=by simpa using h1
     have B:=Hd j;have F:=Hd h1;clear h1 j G;go_wp2;refine bodyPost_ret (v:= .tuple #[Aa Ab 0,Aa Ab 0,Aa Ab 0,Aa Ab 0,Aa Ab (B8 l p q t V)]) (by simp [results,results183,go_sem]) rfl ?_;exact Fu B.o F.o g.o
    ·have ai:=O7 h1;rw [h1];obtain⟨b,C⟩:∃b:Nat,By l p q t V=b:=⟨(By l p q t V).toNat,by omega⟩;rw [C,Ao] at k;have E:b≤l.length:=by omega
     have N:=Hd C;rw [C];clear h1 C ai G;rcases k with⟨r,j⟩|⟨r,h6,j⟩|⟨r,h6,Y,j⟩|⟨r,h6,Y,j⟩
     ·have M:((b:Int) % (V:Int) != 0)=true:=by simpa using r
      have B:=Hd j;have F:=Hd (show(212:Int)≠0 by decide);clear r j;go_wp2;refine bodyPost_ret (v:= .tuple #[Aa Ab 0,Aa Ab 0,Aa Ab 0,Aa Ab 0,Aa Ab 212]) (by simp [results,results183,go_sem]) rfl ?_;exact Fu B.o F.o g.o
     ·have M:((b:Int) % (V:Int) != 0)=false:=by simpa using r
      have B:=Hd j;have F:=Hd (show(211:Int)≠0 by decide);clear r j
      first
       |(exfalso;omega)
       |skip
      all_goals
       (have hsum:IntKind.i64.wrap (3*(V:Int))=3*V∧IntKind.i64.wrap ((b:Int)-3*(V:Int))=(b:Int)-3*V:=⟨Ag _ (by omega),Ag _ (by omega)⟩;have a:=hsum.1;have d:=hsum.2;clear hsum)
       go_wp2_with fail;go_quiet ((go_at_call 274;exact Calls.quiet_of_same (G1 W.o)));clear a d;clear u x y z;replace g:=Hd (below_drewN g.o nq);replace f:=Hd (Fp f.o nq);replace i:=Hd (i.o.drewN nq);generalize w3.drewN nq=w4 at g f i⊢;obtain ⟨u,x,y,z⟩:=f.o.c4;go_wp2;refine bodyPost_ret (v:= .tuple #[Aa Ab 0,Aa Ab 0,Aa Ab 0,Aa Ab 0,Aa Ab 211]) (by simp [results,results183,go_sem]) rfl ?_;exact Fu B.o F.o g.o
     ·have M:((b:Int) % (V:Int) != 0)=false:=by simpa using r
      have B:=Hd j;have F:=Hd (show(211:Int)≠0 by decide);clear r j;have s:(l.length-b)/(V+1)<U:=(G7 (by omega) E).2 Y
      (have hsum:IntKind.i64.wrap (3*(V:Int))=3*V∧IntKind.i64.wrap ((b:Int)-3*(V:Int))=(b:Int)-3*V:=⟨Ag _ (by omega),Ag _ (by omega)⟩;have a:=hsum.1;have d:=hsum.2;clear hsum)
      go_wp2_with fail;go_quiet ((go_at_call 274;exact Calls.quiet_of_same (G1 W.o)));clear a d;clear u x y z;replace g:=Hd (below_drewN g.o nq);replace f:=Hd (Fp f.o nq);replace i:=Hd (i.o.drewN nq);generalize w3.drewN nq=w4 at g f i⊢;obtain ⟨u,x,y,z⟩:=f.o.c4;obtain⟨D,K⟩:∃D,l.length-b=D:=⟨_,rfl⟩;obtain⟨Q,L⟩:∃Q,D/(V+1)=Q:=⟨_,rfl⟩;have H:=Hd (I4 K E hn);have I:=Hd (N3 L (by omega));rw [K,L] at s;clear K L;have ah:=decide_eq_true s;go_wp2_with fail
      (go_at_call 176;refine(Ea A _ c ((b:Int)-V) V l _ (Bz l.length ((b:Int)-V) V) U i.o (by omega) rfl (by rw [←N.o];exact am.o)).mono ?_;rintro e w8 ⟨rfl,m⟩;clear u x y z;replace g:=Hd (A6 g.o m);replace f:=Hd (f.o.pure m);replace i:=Hd (i.o.pure m);clear m;obtain ⟨u,x,y,z⟩:=f.o.c4;go_wp2_with fail)
      go_at_call 184;refine(D0 t _).mono ?_;rw [J.o];rintro e w9 ⟨rfl,rfl⟩;have S:=H.o;have T:=I.o;go_wp2;refine bodyPost_ret (v:= .tuple #[Aa Ab 0,Aa Ab 0,Aa Ab 0,Aa Ab 0,Aa Ab 211]) (by simp [results,results183,go_sem]) rfl ?_;exact Fu B.o F.o g.o
     ·have M:((b:Int) % (V:Int) != 0)=false:=by simpa using r
      have B:=Hd j;clear r j;have s:¬(l.length-b)/(V+1)<U:=fun h=>Nat.not_lt.mpr Y ((G7 (by omega) E).1 h)
      have af:U≤U*(V+1):=Nat.le_mul_of_pos_right _ (by omega);have a0:U≤1099511627776:=by omega
      obtain⟨X,Z⟩:∃X,U*(V+1)=X:=⟨_,rfl⟩;rw [Z] at Y af;have P:=Hd (mul_wrap1 U V X Z (by omega));have ad:=Hd Z;clear Z;have ar:(b:Int)+X≤1099511627776:=by omega
      (have hsum:IntKind.i64.wrap (3*(V:Int))=3*V∧IntKind.i64.wrap ((b:Int)-3*(V:Int))=(b:Int)-3*V:=⟨Ag _ (by omega),Ag _ (by omega)⟩;have a:=hsum.1;have d:=hsum.2;clear hsum)
      go_wp2_with fail;go_quiet ((go_at_call 274;exact Calls.quiet_of_same (G1 W.o)));clear a d;clear u x y z;replace g:=Hd (below_drewN g.o nq);replace f:=Hd (Fp f.o nq);replace i:=Hd (i.o.drewN nq);generalize w3.drewN nq=w4 at g f i⊢;obtain ⟨u,x,y,z⟩:=f.o.c4;obtain⟨D,K⟩:∃D,l.length-b=D:=⟨_,rfl⟩;obtain⟨Q,L⟩:∃Q,D/(V+1)=Q:=⟨_,rfl⟩;have H:=Hd (I4 K E hn);have I:=Hd (N3 L (by omega));rw [K,L] at s;clear K L;have ah:=decide_eq_false s;go_wp2_with fail
      (go_at_call 176;refine(Ea A _ c ((b:Int)-V) V l _ (Bz l.length ((b:Int)-V) V) U i.o (by omega) rfl (by rw [←N.o];exact am.o)).mono ?_;rintro e w8 ⟨rfl,m⟩;clear u x y z;replace g:=Hd (A6 g.o m);replace f:=Hd (f.o.pure m);replace i:=Hd (i.o.pure m);clear m;obtain ⟨u,x,y,z⟩:=f.o.c4;go_wp2_with fail)
      go_at_call 184;refine(D0 t _).mono ?_;rw [J.o];rintro e w9 ⟨rfl,rfl⟩;have S:=H.o;have T:=I.o;have R:=P.o;go_wp2;clear R S T;refine bodyPost_ret (v:= .tuple #[Aa Ab ((b:Int)-3*V),Aa Ab b,Aa Ab ((b:Int)+X),Aa Ab U,Aa Ab 0]) (by simp [results,results183,go_sem]) rfl ?_;rw [show((b:Int)-3*V)=((b-3*V:Nat):Int) by omega,←Int.natCast_add];exact Sj B.o (by rw [N.o,Ao]) (by rw [W.o,Ao];try omega) ao.o (by rw [ab.o,ad.o]) g.o
theorem S2(A:Option Addr)(n c:Nat)(p q t v:Int)(l:List UInt8)(w:World)(h:B4 w A n l)(hn:n≤1099511627776):
  Calls Ad 182 #[.slice A n c,.agg (Ab9 p q t v)] w (Ab5 (.tuple #[Aa Ab (lsFrom l p q t v:Nat),Aa Ab (lsAt l p q t v:Nat),Aa Ab (lsTo l p q t v:Nat),Aa Ab (Cp l p q t v)]) w):=by
 have b:=Hd (h.alloc (.cells (Ab9 p q t v) 70));have a:=Hd ((Af w.heap.size w).alloc (Ae _) (.cells (Ab9 p q t v) 70));clear h;go_enter func182,ntmps182;go_wp2_with fail;go_at_call 183;refine(Qi A n c p q t v l _ b.o hn).mono ?_;unfold Xo;rintro e f ⟨rfl,d⟩;replace a:=Hd (A6 a.o d);clear d b;go_wp2;exact bodyPost_ret (v:= .tuple #[Aa Ab (lsFrom l p q t v:Nat),Aa Ab (lsAt l p q t v:Nat),Aa Ab (lsTo l p q t v:Nat),Aa Ab (Cp l p q t v)]) (by simp [results,results182,go_sem]) rfl ⟨rfl,a.o⟩
theorem pF(A:Option Addr)(n c:Nat)(p q t v:Int)(l:List UInt8)(w:World)(h:B4 w A n l)(hn:n≤1099511627776):
  Calls Ad 103 #[.slice A n c,.agg (Ab9 p q t v)] w (Ab5 (.tuple #[Aa Ab (lsLen l p q t v:Nat),Aa Ab (Cp l p q t v)]) w):=by
 have b:=Hd (h.alloc (.cells (Ab9 p q t v) 70));have a:=Hd ((Af w.heap.size w).alloc (Ae _) (.cells (Ab9 p q t v) 70));clear h;go_enter func103,ntmps103;go_wp2_with fail;go_at_call 183;refine(Qi A n c p q t v l _ b.o hn).mono ?_;unfold Xo;rintro e f ⟨rfl,d⟩;replace a:=Hd (A6 a.o d);clear d b;go_wp2;go_ret2;exact⟨rfl,a.o⟩
theorem Tc(A:Option Addr)(n c:Nat)(p q t:Int)(v f a o k i X:Nat)(w:World)(hX:i*v=X)(hb:a+X≤1099511627776):
  Calls Ad 349 #[.agg #[.slice A n c,Aa Ab p,Aa Ab q,Aa Ab t,Aa Ab v,Aa Ab f,Aa Ab a,Aa Ab o,Aa Ab k],Aa Ab i] w (Ab5 (.agg #[Aa Ab ((a:Int)+X),Aa Ab v,Aa Ab 0,Aa Ab v]) w):=by
 have b:wrap64 ((i:Int)*(v:Int))=(X:Int):=by
  rw [←Int.natCast_mul,hX];exact C8 _ (by omega)
 have d:=Hd (((Af w.heap.size w).alloc (Ae _) (.cells #[.slice A n c,Aa Ab p,Aa Ab q,Aa Ab t,Aa Ab v,Aa Ab f,Aa Ab a,Aa Ab o,Aa Ab k] 279)).alloc (by simp) (.cells (Ab9 0 0 0 0) 70));clear hX;go_enter func349,ntmps349;go_wp2;refine bodyPost_ret (v:= .agg #[Aa Ab ((a:Int)+X),Aa Ab v,Aa Ab 0,Aa Ab v]) (by simp [results,results349,go_sem]) rfl ⟨rfl,?_⟩;exact((Af _ _).alloc (Ae _) _).alloc (by simp) _
theorem eN(A:Option Addr)(n c:Nat)(p q t:Int)(v f a o k i X:Nat)(w:World)(hX:i*v=X)(hb:a+X≤1099511627776):
  Calls Ad 310 #[.agg #[.slice A n c,Aa Ab p,Aa Ab q,Aa Ab t,Aa Ab v,Aa Ab f,Aa Ab a,Aa Ab o,Aa Ab k],Aa Ab i] w (Ab5 (.tuple #[.agg #[Aa Ab ((a:Int)+X),Aa Ab v,Aa Ab (Fh t),Aa Ab v],Aa Ab 0]) w):=by
 have m:=Hd ((Bb.new w 279 #[.slice A n c,Aa Ab p,Aa Ab q,Aa Ab t,Aa Ab v,Aa Ab f,Aa Ab a,Aa Ab o,Aa Ab k]).alloc (.cells (Ab9 0 0 0 0) 70));have j:=Hd (Bb.new_ (w:=w.alloc (.cells #[.slice A n c,Aa Ab p,Aa Ab q,Aa Ab t,Aa Ab v,Aa Ab f,Aa Ab a,Aa Ab o,Aa Ab k] 279)) (g:=w.heap.size+1) (by simp) 70 (Ab9 0 0 0 0));have l:=Hd (((Af w.heap.size w).alloc (Ae _) (.cells #[.slice A n c,Aa Ab p,Aa Ab q,Aa Ab t,Aa Ab v,Aa Ab f,Aa Ab a,Aa Ab o,Aa Ab k] 279)).alloc (by simp) (.cells (Ab9 0 0 0 0) 70));have C:=Hd hX;clear hX;go_enter func310,ntmps310;go_wp2_with fail;go_at_call 349;refine(Tc A n c p q t v f a o k i X _ C.o hb).mono ?_;rintro e r ⟨rfl,b⟩;replace m:=Hd ((m.o.pure b).alloc (.cells #[Aa Ab ((a:Int)+X),Aa Ab v,Aa Ab 0,Aa Ab v] 70));replace j:=Hd ((j.o.pure b).alloc (.cells #[Aa Ab ((a:Int)+X),Aa Ab v,Aa Ab 0,Aa Ab v] 70));have h:=Hd (Bb.new r 70 #[Aa Ab ((a:Int)+X),Aa Ab v,Aa Ab 0,Aa Ab v]);replace l:=Hd ((A6 l.o b).alloc (A6 l.o b).size (.cells #[Aa Ab ((a:Int)+X),Aa Ab v,Aa Ab 0,Aa Ab v] 70));have D:w.heap.size+1<r.heap.size:=by have:=j.o.lt;have:=b.size;(try simp at this);omega
 clear b;obtain ⟨I,J,K,L,M⟩:=m.o.c5;have N:_=some (Aa Ab a):=m.o.cell 6;have O:_=some (Aa Ab k):=m.o.cell 8;obtain ⟨x,y,z,B⟩:=h.o.c4;have s:=h.o.frozen 2;have u:=h.o.frozen 3;go_wp2_with fail;go_at_call 272;refine(J6 t _).mono ?_;rintro e T ⟨rfl,d⟩;replace j:=Hd (j.o.pure d);replace h:=Hd (h.o.pure d);replace l:=Hd (A6 l.o d);clear I J K L M N O x y z B s u d;obtain ⟨E,F,G,H⟩:=j.o.c4;obtain ⟨P,Q,R,S⟩:=j.o.f4;obtain ⟨x,y,z,B⟩:=h.o.c4;have s:=h.o.frozen 2;have u:=h.o.frozen 3;go_wp2;refine bodyPost_ret (v:= .tuple #[.agg #[Aa Ab ((a:Int)+X),Aa Ab v,Aa Ab (Fh t),Aa Ab v],Aa Ab 0]) (by simp [results,results310,go_sem,E,F,G,H]) rfl ⟨rfl,?_⟩;exact((((l.o.setCell (show w.heap.size≤r.heap.size by omega) _).setCell (Aj _) _).setCell (Aj _) _).setCell (Aj _) _).setCell (Aj _) _
def dD(a X:Nat)(v:Int)(c:UInt8):Value:=if Fq c=0 then .agg #[Aa Ab ((a:Int)+X),Aa Ab v,Aa Ab (I7 c),Aa Ab (I8 c)] else .agg (Ab9 0 0 0 0)
theorem S7(A:Option Addr)(n c:Nat)(p q t:Int)(v f a o k i X K:Nat)(l:List UInt8)(c0:UInt8)(w:World)(h:B4 w A n l)(hn:n≤1099511627776)(hX:i*v=X)(hK:k*v=K)(hik:i≤k)(hin:a+K+i<n)(hc:l[a+K+i]?=some c0):
  Calls Ad 312 #[.agg #[.slice A n c,Aa Ab p,Aa Ab q,Aa Ab t,Aa Ab v,Aa Ab f,Aa Ab a,Aa Ab o,Aa Ab k],Aa Ab i] w (Ab5 (.tuple #[dD a X v c0,Aa Ab (Fq c0)]) w):=by
 have W:X≤K:=by rw [←hX,←hK];exact Nat.mul_le_mul_right _ hik
 have Y:a+X≤1099511627776:=by omega
 have d:wrap64 ((k:Int)*(v:Int))=(K:Int):=by
  rw [←Int.natCast_mul,hK];exact C8 _ (by omega)
 have y:=Hd d;have E:=Hd ((h.alloc (.cells #[.slice A n c,Aa Ab p,Aa Ab q,Aa Ab t,Aa Ab v,Aa Ab f,Aa Ab a,Aa Ab o,Aa Ab k] 279)).alloc (.cells (Ab9 0 0 0 0) 70));have T:=Hd hc;clear d hK h hc;have z:=Hd ((Bb.new w 279 #[.slice A n c,Aa Ab p,Aa Ab q,Aa Ab t,Aa Ab v,Aa Ab f,Aa Ab a,Aa Ab o,Aa Ab k]).alloc (.cells (Ab9 0 0 0 0) 70));have u:=Hd (Bb.new_ (w:=w.alloc (.cells #[.slice A n c,Aa Ab p,Aa Ab q,Aa Ab t,Aa Ab v,Aa Ab f,Aa Ab a,Aa Ab o,Aa Ab k] 279)) (g:=w.heap.size+1) (by simp) 70 (Ab9 0 0 0 0));have s:=Hd (((Af w.heap.size w).alloc (Ae _) (.cells #[.slice A n c,Aa Ab p,Aa Ab q,Aa Ab t,Aa Ab v,Aa Ab f,Aa Ab a,Aa Ab o,Aa Ab k] 279)).alloc (by simp) (.cells (Ab9 0 0 0 0) 70));have V:=Hd hX;clear hX;go_enter func312,ntmps312;go_wp2_with fail;go_at_call 349;refine(Tc A n c p q t v f a o k i X _ V.o Y).mono ?_;rintro e D ⟨rfl,b⟩;replace z:=Hd ((z.o.pure b).alloc (.cells #[Aa Ab ((a:Int)+X),Aa Ab v,Aa Ab 0,Aa Ab v] 70));replace u:=Hd ((u.o.pure b).alloc (.cells #[Aa Ab ((a:Int)+X),Aa Ab v,Aa Ab 0,Aa Ab v] 70));have r:=Hd (Bb.new D 70 #[Aa Ab ((a:Int)+X),Aa Ab v,Aa Ab 0,Aa Ab v]);replace s:=Hd ((A6 s.o b).alloc (A6 s.o b).size (.cells #[Aa Ab ((a:Int)+X),Aa Ab v,Aa Ab 0,Aa Ab v] 70));have aa:w.heap.size+1<D.heap.size:=by have:=u.o.lt;have:=b.size;(try simp at this);omega
 replace E:=Hd ((E.o.pure b).alloc (.cells #[Aa Ab ((a:Int)+X),Aa Ab v,Aa Ab 0,Aa Ab v] 70));clear b;obtain ⟨y0,y1,y2,y3,y4⟩:=z.o.c5;have y6:_=some (Aa Ab a):=z.o.cell 6;have y8:_=some (Aa Ab k):=z.o.cell 8;obtain ⟨L,M,N,O⟩:=r.o.c4;have I:=r.o.frozen 2;have J:=r.o.frozen 3;obtain⟨g,ab,rfl,C,j⟩:=Ep E.o hin;have B:l[a+K+i]=c0:=by
  have:=T.o;rw [List.getElem?_eq_getElem C] at this;injection this
 rw [B] at j;have G:(a:Int)+K+i<n:=by omega
 have H:a+K+i<n:=hin;clear B C;have d:=y.o;go_wp2_with fail;clear d;go_at_call 50;refine(Ln c0 _).mono ?_;rintro e w2 ⟨rfl,m⟩;replace u:=Hd (u.o.pure m);replace r:=Hd (r.o.pure m);replace s:=Hd (A6 s.o m);clear y0 y1 y2 y3 y4 y6 y8 L M N O I J m j;obtain ⟨P,Q,R,S⟩:=u.o.c4;obtain ⟨f0,f1,f2,f3⟩:=u.o.f4;obtain ⟨L,M,N,O⟩:=r.o.c4;have I:=r.o.frozen 2;have J:=r.o.frozen 3;by_cases x:Fq c0=0
 ·have F:=Hd (show dD a X v c0=_ from if_pos x);rw [x];have U:=Hd x;clear x;go_wp2;refine bodyPost_ret (v:= .tuple #[.agg #[Aa Ab ((a:Int)+X),Aa Ab v,Aa Ab (I7 c0),Aa Ab (I8 c0)],Aa Ab 0]) (by simp [results,results312,go_sem,P,Q,R,S]) rfl ⟨?_,?_⟩
  ·rw [F.o,U.o]
  ·exact(((((s.o.setCell (show w.heap.size≤D.heap.size by omega) _).setCell (show w.heap.size≤D.heap.size by omega) _).setCell (Aj _) _).setCell (Aj _) _).setCell (Aj _) _).setCell (Aj _) _
 ·have F:=Hd (show dD a X v c0=_ from if_neg x);have Z:(Fq c0 != 0)=true:=by simpa using x
  clear x;go_wp2;refine bodyPost_ret (v:= .tuple #[.agg (Ab9 0 0 0 0),Aa Ab (Fq c0)]) (by simp [results,results312,go_sem,P,Q,R,S]) rfl ⟨?_,?_⟩
  ·rw [F.o]
  ·exact(((s.o.setCell (Aj _) _).setCell (Aj _) _).setCell (Aj _) _).setCell (Aj _) _
def Qk(l:List UInt8)(p q t v:Int)(i:Int):UInt8:=l.getD (lsAt l p q t v+lsLen l p q t v*v.toNat+i.toNat) 0
def Fz(l:List UInt8)(p q t v i:Int):Int:=
 if Cp l p q t v≠0 then Cp l p q t v else if i<0∨(lsLen l p q t v:Int)≤i then 6 else if Dk t=true then Fq (Qk l p q t v i) else 0
def Q4(l:List UInt8)(p q t v i:Int):Int:=if Fz l p q t v i=0 then((lsAt l p q t v:Int)+(i.toNat*v.toNat:Nat)) else 0
def Q5(l:List UInt8)(p q t v i:Int):Int:=if Fz l p q t v i=0 then v else 0
def Sp(l:List UInt8)(p q t v i:Int):Int:=if Fz l p q t v i=0 then(if Dk t=true then I7 (Qk l p q t v i) else Fh t) else 0
def Sq(l:List UInt8)(p q t v i:Int):Int:=if Fz l p q t v i=0 then(if Dk t=true then I8 (Qk l p q t v i) else v) else 0
def fC(w:World)(l:List UInt8)(p q t v i:Int)(e:Ending)(w':World):Prop:=
 e= .returned (.tuple #[.agg #[Aa Ab (Q4 l p q t v i),Aa Ab (Q5 l p q t v i),Aa Ab (Sp l p q t v i),Aa Ab (Sq l p q t v i)],Aa Ab (Fz l p q t v i)])∧Below w.heap.size w w'
theorem Lr(h:Fz l p q t v i=er)(hne:er≠0)(hb:Below w.heap.size w w'):fC w l p q t v i (.returned (.tuple #[.agg (Ab9 0 0 0 0),Aa Ab er])) w':=by
 unfold fC Q4 Q5 Sp Sq;rw [h,if_neg hne,if_neg hne,if_neg hne,if_neg hne];exact⟨rfl,hb⟩
theorem Sa{a b c d:Int}(h:Fz l p q t v i=0)(h1:((lsAt l p q t v:Int)+(i.toNat*v.toNat:Nat))=a)(h2:v=b)(h3:(if Dk t=true then I7 (Qk l p q t v i) else Fh t)=c)(h4:(if Dk t=true then I8 (Qk l p q t v i) else v)=d)(hb:Below w.heap.size w w'):
  fC w l p q t v i (.returned (.tuple #[.agg (Ab9 a b c d),Aa Ab 0])) w':=by
 unfold fC Q4 Q5 Sp Sq;rw [h,if_pos rfl,if_pos rfl,if_pos rfl,if_pos rfl,h1,h3,h4,←h2];exact⟨rfl,hb⟩
theorem Sf(h:Cp l p q t v=0):Iq t=true∧Ig t=true∧Br v=true∧(lsAt l p q t v)+lsLen l p q t v*(v.toNat+tgs t)≤l.length∧0≤p∧0≤q∧p+q≤l.length∧Br q=true∧(lsAt l p q t v:Int) % v=0:=by
 rcases M8 l p q t v with⟨h1,e⟩|⟨h1,⟨_,e⟩|⟨h2,⟨h3,e⟩|⟨h3,⟨_,e⟩|⟨_,_,e⟩|⟨_,_,_,e⟩|⟨f,_,g,_⟩⟩⟩⟩
 ·rw [e] at h;exact absurd h h1
 ·rw [e] at h;cases h
 ·rw [e] at h;exact absurd h h3
 ·rw [e] at h;cases h
 ·rw [e] at h;cases h
 ·rw [e] at h;cases h
 ·obtain⟨a,b⟩:=Dy.1 h1;have b:=Em.1 b;have a:=Cz.1 a;have i:=O7 h3;have c:lsAt l p q t v=(By l p q t v).toNat:=if_pos h;have d:lsLen l p q t v=Kt l p q t v:=if_pos h;refine⟨h2,Hv a.1,a.2.2,?_,b.1,b.2.1,b.2.2,a.2.1,?_⟩
  ·rw [c,d];exact g
  ·rw [c,Int.toNat_of_nonneg i.1];exact f
theorem Aac(hL:Iq t=true)(ht:Ig t=true):∃a F tg,V1 t.toNat=[a,F,(if Dk t=true then Lt 312 else Lt 310),tg]:=by
 rcases Xe ht with⟨h,_⟩|⟨_,_,_,hT,_,e⟩|⟨_,_,_,e⟩
 ·rw [hL] at h;cases h
 ·rw [hT];exact⟨_,_,_,e⟩
 ·exact⟨_,_,_,e⟩
theorem cW(a F G tg:Value):∀W:World,(Instr.field 285 (.agg #[a,F,G,tg]) 2).run Ad W= .ok G W:=by
 intro W
 kernel_rfl
end Go.Proofs.YtejpbijeifjdeaaGreat
