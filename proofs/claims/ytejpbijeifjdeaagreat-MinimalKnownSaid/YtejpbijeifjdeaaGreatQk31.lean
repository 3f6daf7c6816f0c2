/- Parts of the proof. -/
import Derived.Test.YtejpbijeifjdeaaGreatQk30
set_option maxHeartbeats 4000000
set_option maxRecDepth 100000
open Nat renaming le_refl→Ae,le_trans→Am,zero_le→Aq
open Go.RowKit.Below renaming refl→Af
open Go.IntWalk renaming i64_in→Ag
open List renaming getElem?_eq_getElem→Aj,replicate→Ak,length_append→An,length_take→Au
open Int renaming toNat_natCast→Ao
open UInt8 renaming ofNat→Ar
open Go.Proofs.Tryz
open Go.Proofs.Tryz renaming prog→Ad
namespace Go.Proofs.YtejpbijeifjdeaaGreat
open Go.RowKit Go.Acc
variable {b:Bool}{w:World}{W k:Nat}{L:List Nat}
theorem nI(bw:Nat)(B0 B2:Nat)(A:Option Addr)(n c:Nat)(l:List UInt8)(x p q t v:Int)(res:Except Int (List P3))(w:World)(h:E8 ⟨B0,B2,bw,A,n,c,l⟩ none [] x w)(hx:x<0)(hok:H8 ⟨p,q,t,v⟩)(hr:Ou l ⟨p,q,t,v⟩=res):
  Calls Ad 64 #[Adm bw,.agg (Adl p q t v)] w fun e w'=>e= .returned (.tuple #[])∧kS ⟨B0,B2,bw,A,n,c,l⟩ none x w w' res:=
 rW ⟨B0,B2,bw,A,n,c,l⟩ (Pv l) none [] x p q t v res w h hx (by
  unfold Ms Pw;rw [List.length_nil,Nat.zero_add,←Z4];exact List.countP_le_length) hok (by rw [←hr];exact eJ hok)
theorem iG(A:Option Addr)(n c:Nat)(fuel:Int)(l:List UInt8)(w:World)(hl:Ca w A n l)(hc:n≤c)(hn:n≤1000000)(hf:fuel≤100000000):
  Calls Ad 30 #[.slice A n c,.int .i64 fuel] w (Adh (.tuple #[.int .i64 (B5 l fuel).1,.int .i64 (B5 l fuel).2]) w):=by
 have aq:=hl.1;have j:=Hd hl;have X:=iK A n c fuel l w hl hc (by omega) hf;clear hl;by_cases L:Dg l fuel=0
 ·have hr:=Rt L;obtain⟨M,s⟩:=Z6 hr;obtain⟨⟨p,q,t,v⟩,i⟩:∃r,Dm l=r:=⟨_,rfl⟩;rw [i] at M s;obtain⟨res,E⟩:∃res,Ou l ⟨p,q,t,v⟩=res:=⟨_,rfl⟩;obtain⟨st,N⟩:∃b,Cy l p q t v p (q/2)=b:=⟨_,rfl⟩;have D:B5 l fuel=if 1<q∧st=true then(p,10) else mR res:=by
   unfold B5;rw [if_neg (by rw [L];decide),i,E];simp only [N]
  have Z:Bt q=true:=by
   have hx:∃x,l.getD (l.length-1) 0=x:=⟨_,rfl⟩;obtain⟨x,hx⟩:=hx;cases hw:Bt (x.toNat:Int) with
   |false=>rw [Lp hx hw] at hr;cases hr
   |true=>
    have h1:=Ob hx rfl hr;unfold Dm at i;rw [h1] at i;injection i with _ h2
    rw [←h2];exact hw
  have G:=Hd D;have af:=Hd M;have U:=Hd E;have ah:=Hd N;have ag:=Hd Z;have hq:1≤q∧q≤8:=⟨s.2.1,s.2.2.1⟩;have h3:3≤n:=by have:=(Pz hr).2;omega
  have hp:0≤p∧p≤n:=by have h1:=s.1;have h2:=s.2.2.2;simp only at h1 h2;omega
  have hR:=fun W (h:Ca W A n l)=>Rb A n c l W h (by omega)
  have F:(C1 l).1=p∧(C1 l).2.1=q∧(C1 l).2.2.1=t∧(C1 l).2.2.2=v:=by
   unfold Dm at i;injection i with h1 h2 h3 h4
   exact⟨h1,h2,h3,h4⟩
  rw [hr,F.1,F.2.1,F.2.2.1,F.2.2.2] at hR;rw [L] at X;have V:=Hd hR;have HP:=Hd X;clear L hr M s i E N D hR X F Z;go_enter func30,ntmps30;go_wp2_with fail;go_at_call 54;refine HP.o.mono ?_;rintro e w1 ⟨A',k,c',rfl,hO,d⟩;have f:=Hd d;replace j:=Hd (j.o.pure d);clear hO d HP;go_wp2_with fail;go_at_call 62;refine(V.o _ j.o).mono ?_;rintro e T ⟨rfl,d⟩;replace f:=Hd (Ba f.o d);replace j:=Hd (j.o.pure d);clear d V;go_upto_region 5 with fail
  have y:=Hd (Bh.new T 70 (Adl p q t v));have g:Below T.heap.size T (T.alloc (.cells (Adl p q t v) 70)):=(Af _ _).alloc (Ae _) _;replace f:=Hd (Ba f.o g);replace j:=Hd (j.o.pure g);generalize T.alloc (.cells (Adl p q t v) 70)=W at f j y⊢;generalize T.heap.size=bR at y⊢;clear g;obtain ⟨O,P,Q,R⟩:=y.o.c4;go_cut [37] from 11 to 54 (fun u29 wx=>∃wy,wy=wx∧u29= .bool (decide (1<q∧st=true))∧Below W.heap.size W wx)
  case first=>
   by_cases H:1<q
   ·have an:decide (1<q)=true:=decide_eq_true H;have ay:IntKind.i64.wrap (q.tdiv 2)=q/2:=by rw [Int.tdiv_eq_ediv_of_nonneg (by omega)];exact Ag _ (by omega)
    have J:=Hd (show decide (1<q∧st=true)=st by cases st <;>simp [H]);have ai:=Hd (show Bt (q/2)=true by rcases Bz.1 ag.o with h|h|h|h <;>subst h <;>first|(exfalso;omega)|decide);have HQ:=Hd (Af W.heap.size W);clear f;go_wp2_with (go_at_call 63;(with_reducible refine(Re A n c p q t v p (q/2) st l _ j.o (by omega) (by omega) ai.o ah.o).mono ?_);rintro e u ⟨rfl,d⟩;replace HQ:=Hd d;clear O P Q R;clear d);go_meet;rw [J.o];exact⟨_,rfl,rfl,HQ.o⟩
   ·have an:decide (1<q)=false:=decide_eq_false H;have J:=Hd (show decide (1<q∧st=true)=false from decide_eq_false fun h=>H h.1);go_wp2_with fail;go_meet;rw [J.o];exact⟨_,rfl,rfl,Af _ _⟩
  case rest=>
  obtain⟨u,rfl,rfl,d⟩:=hcut;replace f:=Hd (Ba f.o d);replace y:=Hd (y.o.pure d);replace j:=Hd (j.o.pure d);clear O P Q R;clear d;obtain ⟨O,P,Q,R⟩:=y.o.c4;by_cases m:1<q∧st=true
  ·have Y:decide (1<q∧st=true)=true:=decide_eq_true m;rw [Y];have hr:=G.o;rw [if_pos m] at hr;have HR:=Hd hr;clear hr m Y;go_wp2_with fail;go_ret2;exact⟨H6 HR.o,f.o⟩
  ·have Y:decide (1<q∧st=true)=false:=decide_eq_false m;rw [Y];have hr:=G.o;rw [if_neg m] at hr;have HR:=Hd hr;clear hr m Y;go_upto_region 8 with fail
   have g:Below u.heap.size u (u.alloc (.cells #[.slice A n c,.slice none 0 0,.int .i64 (-1)] 99)):=(Af _ _).alloc (Ae _) _;have hC:E8 ⟨u.heap.size,u.heap.size+1,u.heap.size,A,n,c,l⟩ none [] (-1) (u.alloc (.cells #[.slice A n c,.slice none 0 0,.int .i64 (-1)] 99)):=by
    refine⟨⟨fun ad had=>?_,Ae _,Nat.lt_succ_self _,hc,hn⟩,j.o.pure g,⟨none,0,0,Bh.new _ _ _,Own.nil _ _,rfl⟩,by simp⟩;obtain⟨b',a0,e,ao⟩:=j.o.some_ Cn (by omega) (by omega);simp only at had;rw [e] at had;injection had with had
    subst had;exact ao
   have z:=Hd (nI u.heap.size u.heap.size (u.heap.size+1) A n c l (-1) p q t v res _ hC (by decide) af.o U.o);have S:=Hd hC;have K:=Hd f.o.size;replace f:=Hd (Ba f.o g);replace y:=Hd (y.o.pure g);clear O P Q R;clear g hC j;generalize u.alloc (.cells #[.slice A n c,.slice none 0 0,.int .i64 (-1)] 99)=w9 at f y z S⊢;generalize u.heap.size=bw at z S K⊢;obtain ⟨O,P,Q,R⟩:=y.o.c4;go_wp2_with fail;go_at_call 64;refine z.o.mono ?_;cases res with
   |error a=>
    rintro e w10 ⟨rfl,ax,g2,H2,B,C⟩;have d:Below w.heap.size w w10:=f.o.trans ((C.belowB S.o).mono K.o);have I:=Hd B;replace f:=Hd d;clear O P Q R;clear d B C y z S;have c2:=I.o.c2;simp only at c2;go_wp2_with fail;go_ret2;exact⟨H6 HR.o,f.o⟩
   |ok had=>
    rintro e w10 ⟨rfl,g2,H2,_,_,B,C⟩;have d:Below w.heap.size w w10:=f.o.trans ((C.belowB S.o).mono K.o);have I:=Hd B;replace f:=Hd d;clear O P Q R;clear d B C y z S;have c2:=I.o.c2;simp only at c2;go_wp2_with fail;go_ret2;exact⟨H6 HR.o,f.o⟩
 ·have az:(Dg l fuel != 0)=true:=by simpa using L
  have D:B5 l fuel=(0,Dg l fuel):=by unfold B5;rw [if_pos L]
  have G:=Hd D;have HP:=Hd X;clear D L X;go_enter func30,ntmps30;go_wp2_with fail;go_at_call 54;refine HP.o.mono ?_;rintro e w1 ⟨A',k,c',rfl,hO,d⟩;have f:=Hd d;clear d hO;go_wp2_with fail;go_ret2;exact⟨H6 G.o,f.o⟩
theorem rR(A:Option Addr)(n c:Nat)(fuel a e0:Int)(l:List UInt8)(w:World)(hl:Ca w A n l)(hc:n≤c)(hn:n≤1000000)(hf:fuel≤100000000)(h:B5 l fuel=(a,e0)):
  Calls Ad 30 #[.slice A n c,.int .i64 fuel] w (Adh (.tuple #[.int .i64 a,.int .i64 e0]) w):=by
 have:=iG A n c fuel l w hl hc hn hf;rw [h] at this;exact this
theorem Fg(A:Option Addr)(n c:Nat)(f:Int)(l:List UInt8)(w:World)(h:Ca w A n l)(hc:n≤c):
  Calls Ad 7 #[.slice A n c,.int .i64 f] w (Adh (.bool true) w):=by
 have k:=Hd h;clear h;go_enter func7,ntmps7;go_wp2_with fail;go_at_call 28;refine(Nk A n c l _ k.o hc).mono ?_;rintro e M ⟨u,B,y,rfl,J,m,p⟩;have s:=m.cap.1;have d:=Hd m.is;have b:=Hd p;replace k:=Hd (k.o.pure p);clear m p;obtain⟨g,F⟩:∃z,min f 2000=z:=⟨_,rfl⟩;have t:g≤100000000:=by omega
 have C:=Hd F;obtain⟨⟨a,D⟩,G⟩:∃z,B5 (l.take 1500) g=z:=⟨_,rfl⟩;have v:=Hd G;clear F G;go_wp2_with fail;go_at_call 29;rw [C.o];refine(J5 u B y g a D _ M d.o s (by omega) t v.o).mono ?_;rintro e N ⟨rfl,i⟩;replace d:=Hd (d.o.pure i);replace b:=Hd (Ba b.o i);replace k:=Hd (k.o.pure i);clear i;go_wp2_with fail;go_at_call 30;refine(rR u B y g a D _ N d.o s (by omega) t v.o).mono ?_;rintro e O ⟨rfl,j⟩;replace d:=Hd (d.o.pure j);replace b:=Hd (Ba b.o j);replace k:=Hd (k.o.pure j);clear j v C;go_wp2_with fail;go_at_call 28;refine(Nk A n c l _ k.o hc).mono ?_;rintro e P ⟨H,L,I,rfl,K,r,q⟩;have x:=Hd r.is;replace d:=Hd (d.o.pure q);replace b:=Hd (Ba b.o q);clear r q;go_wp2_with fail;go_at_call 31;refine(tT u H B L y I _ _ _ d.o x.o).mono ?_;rw [tS];rintro e Q ⟨rfl,rfl⟩;go_wp2_with fail;go_at_call 13;refine(Dy _).mono ?_;rintro e R ⟨rfl,E⟩;replace b:=Hd (Ba b.o E);clear E;go_wp2;go_ret;exact⟨rfl,b.o⟩
theorem Ts{y:Nat}(h:Bt (y:Int)=true)(hb:b=true):Gw y b=0:=by subst hb;simp [Gw,h]
def Xx(W U:Nat)(c:UInt8):List UInt8:=Bn W U++ [c,Ar W]
def oJ(f:Bool)(W U:Nat)(T:UInt8)(k:Int):Prop:=(f=true→B5 (Xx W U T) 1=if k<(W:Int) then(0,10) else(0,0))∧(f=false→(W:Int)<k)
theorem Tk{g:Nat}{a b:Int}{x y:UInt8}(hg:w.heap.size=g)(ha:a=(x.toNat:Int))(hb:b=(y.toNat:Int)):Ca (w.alloc (.cells #[.int .u8 a,.int .u8 b] 5)) (some ⟨g,0,none⟩) 2 [x,y]:=by
 subst ha hb hg;refine⟨rfl,fun j u hj=>⟨_,_,rfl,?_⟩⟩;rw [(Bh.new w 5 _).cell,Nat.zero_add,←Array.getElem?_toList];exact hj
theorem eZ(h:Bt (W:Int)=true):Gw W false=10:=by unfold Gw;rw [if_pos h];rfl
theorem X8(u:Int): -9223372036854775808≤wrap64 u∧wrap64 u≤9223372036854775807:=by unfold wrap64;omega
structure wS(x:Int)(W C:Nat):Prop where
 sh:wrap64 (2^(x % 4).toNat)=(W:Int)
 w:Bt (W:Int)=true
 c:Wd W=C
 e:Jj W=0
 c3:C≤3
theorem iE(u W C:Nat)(T:UInt8)(x t:Int)(w:World)(hu:(u:Int)<18446744073709551616)(hx:wS x W C)(ht:t=2)(hT:(T.toNat:Int)=4*t+C)(hr:oJ (Cf W u) W u T (Fq u)):
  Calls Ad 8 #[.int .u64 u,.int .i64 x,.bool false] w (Adh (.bool true) w):=by
 have m:=Hd hx;have N:=Hd (show Fq u=Fq u from rfl);have K:=Hd hu;have P:=Hd hT;have O:=Hd hr;have q:=hx.sh;have U:1≤W∧W≤8:=by have:=Bz.1 hx.w;omega
 have R:=hx.c3;clear hx hu hT hr;go_enter func8,ntmps8;go_wp2_with fail;go_at_call 18;refine(Qk x 4 _ (by decide) (by decide)).mono ?_;rintro e H ⟨rfl,rfl⟩;go_wp2_with fail;go_at_call 32;rw [q];clear q;refine(Gm W _).mono ?_;rw [m.o.c,m.o.e];rintro e H ⟨rfl,rfl⟩;go_wp2_with fail;go_at_call 6;refine(Ii none 0 0 u W [] _ (Is.nil _ _) (by omega) (by omega) K.o).mono ?_;rintro e H ⟨Y,n1,Z,rfl,h,b⟩;have d:=Hd b;have A:=Hd b.size;have B:=Hd (Ae w.heap.size);clear b;go_wp2_with fail;go_at_call 33;refine(Hm u _ _ (by have:=K.o;omega) rfl).mono ?_;rintro e w2 ⟨rfl,rfl⟩
 try rw [Ao] at h
 try rw [Ao]
 obtain⟨k,r⟩:∃k,Fq u=k:=⟨_,rfl⟩;have hr:=O.o;rw [r] at hr;rw [r];cases hf:Cf W u with
 |false=>
  have hw:=hr.2 hf;rw [eZ m.o.w];clear hr h hf r;go_wp2_with fail;go_at_call 13;refine(Dy _).mono ?_;rintro e X ⟨rfl,b⟩;replace d:=Hd (Ba d.o b);clear b;go_wp2;go_ret;exact⟨rfl,d.o⟩
 |true=>
  have f:=hr.1 hf;have M:Gk [] (W:Int) u true=Bn W u:=by unfold Gk;rw [if_pos ⟨m.o.w,rfl⟩];rfl
  rw [hf,M] at h;rw [Ts m.o.w rfl];obtain rfl:W=n1:=by rw [←h.1,B9]
  obtain⟨er,f,n⟩:∃er:Int,B5 (Xx W u T) 1=(0,er)∧(decide (k<(W:Int))=true∧er=10∨decide (k<(W:Int))=false∧er=0):=by
   by_cases a:k<(W:Int)
   ·exact⟨10,by rw [f,if_pos a],.inl ⟨decide_eq_true a,rfl⟩⟩
   ·exact⟨0,by rw [f,if_neg a],.inr ⟨decide_eq_false a,rfl⟩⟩
  have J:=Hd h;have z:=Hd f;have i:=Hd n;have D:=Hd (show(W:Int)=((Ar W).toNat:Int) by rw [UInt8.toNat_ofNat'];omega);have s:=Hd (show ∀v,w.heap.size≤(H.alloc v).heap.size by have:=A.o;simp;omega);have F:IntKind.i64.wrap (4*t+(C:Int))=4*t+C:=Ag _ (by omega);have G:IntKind.u8.wrap (4*t+(C:Int))=4*t+C:=by rw [IntKind.wrap_u8];omega
  have S:IntKind.u8.wrap (W:Int)=W:=by rw [IntKind.wrap_u8];omega
  rw [ht] at F G;clear hr h hf r f n M;go_wp2_with (at_builtin;refine Dh _ rfl (.tmp 54) (.tmp 62) _ rfl 5 _ 1 1 underlying22 Gc rfl (by omega) Cn Gs _ _ _ _ _ rfl (J.o.pure ((Af _ _).alloc (Ae _) _)) _ _ _ _ rfl (Tk (x:=T) (y:=Ar W) rfl (by have:=P.o;omega) D.o) (by omega) (s.o _) ?_;intro I L V g p E;have l:=Hd (show F4 V _ I (W+2) L (Xx W u T) from g);replace d:=Hd (B8 (d.o.alloc d.o.size _) p (by rintro j ⟨Q,e,rfl⟩;exact Am B.o (J.o.addr Q e).2.1));clear g p E);go_wp2_with fail;go_at_call 29;refine(J5 I (W+2) L 1 0 er _ _ l.o.is l.o.cap.1 (by omega) (by decide) z.o).mono ?_;rintro e w5 ⟨rfl,b⟩;replace d:=Hd (Ba d.o b);obtain⟨a,rfl⟩|⟨a,rfl⟩:=i.o
  all_goals
   clear b i;go_wp2_with fail;go_at_call 13;refine(Dy _).mono ?_;rintro e X ⟨rfl,b⟩;replace d:=Hd (Ba d.o b);clear b;go_wp2;go_ret;exact⟨rfl,d.o⟩
theorem iD(u W C:Nat)(T:UInt8)(x t:Int)(w:World)(hu:(u:Int)<18446744073709551616)(hx:wS x W C)(ht:t=1)(hT:(T.toNat:Int)=4*t+C)(hr:oJ (D2 W (wrap64 u)) W (wrap64 u % 18446744073709551616).toNat T (Ml (wrap64 u))):
  Calls Ad 8 #[.int .u64 u,.int .i64 x,.bool true] w (Adh (.bool true) w):=by
 have p:=Hd hx;have P:=Hd (show Fq u=Fq u from rfl);have K:=Hd hu;have R:=Hd hT;have Q:=Hd hr;have s:=hx.sh;have Y:1≤W∧W≤8:=by have:=Bz.1 hx.w;omega
 have V:=hx.c3;clear hx hu hT hr;go_enter func8,ntmps8;go_wp2_with fail;go_at_call 18;refine(Qk x 4 _ (by decide) (by decide)).mono ?_;rintro e H ⟨rfl,rfl⟩;go_wp2_with fail;go_at_call 32;rw [s];clear s;refine(Gm W _).mono ?_;rw [p.o.c,p.o.e];rintro e H ⟨rfl,rfl⟩;go_wp2_with fail;go_at_call 6;refine(Ii none 0 0 u W [] _ (Is.nil _ _) (by omega) (by omega) K.o).mono ?_;rintro e H ⟨O,n1,U,rfl,g,a⟩;have b:=Hd a;have i:=Hd a.size;have n:=Hd (Ae w.heap.size);clear a;go_wp2_with fail;go_at_call 33;refine(Hm u _ _ (by have:=K.o;omega) rfl).mono ?_;rintro e N ⟨rfl,rfl⟩;clear g;go_wp2_with fail;go_at_call 34;refine(rQ none 0 0 W (wrap64 u) [] _ (Is.nil _ _) (by omega) (by omega) (X8 u)).mono ?_;rintro e N ⟨O,n1,U,rfl,g,a⟩;replace b:=Hd (Ba b.o a);replace n:=i;replace i:=Hd a.size;clear a;go_wp2_with fail;go_at_call 35;refine(Zd (wrap64 u) _ _ (X8 u) rfl).mono ?_;rintro e w3 ⟨rfl,rfl⟩
 try rw [Ao] at g
 try rw [Ao]
 obtain⟨k,z⟩:∃k,Ml (wrap64 u)=k:=⟨_,rfl⟩;have hr:=Q.o;rw [z] at hr;rw [z];cases hf:D2 W (wrap64 u) with
 |false=>
  have hw:=hr.2 hf;rw [eZ p.o.w];clear hr g hf z;go_wp2_with fail;go_at_call 13;refine(Dy _).mono ?_;rintro e w7 ⟨rfl,a⟩;replace b:=Hd (Ba b.o a);clear a;go_wp2;go_ret;exact⟨rfl,b.o⟩
 |true=>
  have f:=hr.1 hf;have M:Gk [] (W:Int) (wrap64 u % 18446744073709551616).toNat true=Bn W (wrap64 u % 18446744073709551616).toNat:=by unfold Gk;rw [if_pos ⟨p.o.w,rfl⟩];rfl
  rw [hf,M] at g;rw [Ts p.o.w rfl];obtain rfl:W=n1:=by rw [←g.1,B9]
  obtain⟨er,f,q⟩:∃er:Int,B5 (Xx W (wrap64 u % 18446744073709551616).toNat T) 1=(0,er)∧(decide (k<(W:Int))=true∧er=10∨decide (k<(W:Int))=false∧er=0):=by
   by_cases d:k<(W:Int)
   ·exact⟨10,by rw [f,if_pos d],.inl ⟨decide_eq_true d,rfl⟩⟩
   ·exact⟨0,by rw [f,if_neg d],.inr ⟨decide_eq_false d,rfl⟩⟩
  have J:=Hd g;have B:=Hd f;have l:=Hd q;have D:=Hd (show(W:Int)=((Ar W).toNat:Int) by rw [UInt8.toNat_ofNat'];omega);have A:=Hd (show ∀v,H.heap.size≤(N.alloc v).heap.size by have:=i.o;simp;omega);have F:IntKind.i64.wrap (4*t+(C:Int))=4*t+C:=Ag _ (by omega);have G:IntKind.u8.wrap (4*t+(C:Int))=4*t+C:=by rw [IntKind.wrap_u8];omega
  have X:IntKind.u8.wrap (W:Int)=W:=by rw [IntKind.wrap_u8];omega
  rw [ht] at F G;clear hr g hf z f q M;go_wp2_with (at_builtin;refine Dh _ rfl (.tmp 54) (.tmp 62) _ rfl 5 _ 1 1 underlying22 Gc rfl (by omega) Cn Gs _ _ _ _ _ rfl (J.o.pure ((Af _ _).alloc (Ae _) _)) _ _ _ _ rfl (Tk (x:=T) (y:=Ar W) rfl (by have:=R.o;omega) D.o) (by omega) (A.o _) ?_;intro I L Z h r E;have m:=Hd (show F4 Z _ I (W+2) L (Xx W (wrap64 u % 18446744073709551616).toNat T) from h);replace b:=Hd (B8 (b.o.alloc b.o.size _) r (by rintro j ⟨S,e,rfl⟩;exact Am n.o (J.o.addr S e).2.1));clear h r E);go_wp2_with fail;go_at_call 29;refine(J5 I (W+2) L 1 0 er _ _ m.o.is m.o.cap.1 (by omega) (by decide) B.o).mono ?_;rintro e w5 ⟨rfl,a⟩;replace b:=Hd (Ba b.o a);obtain⟨d,rfl⟩|⟨d,rfl⟩:=l.o
  all_goals
   clear a l;go_wp2_with fail;go_at_call 13;refine(Dy _).mono ?_;rintro e w7 ⟨rfl,a⟩;replace b:=Hd (Ba b.o a);clear a;go_wp2;go_ret;exact⟨rfl,b.o⟩
def uc(u:Nat):List Value:=[.int .u64 (u:Int)]
theorem fS(u:Nat):(uc u).length=1:=rfl
abbrev bP:=Is uc
theorem dN{A:Option Addr}{n:Nat}{l:List Nat}(h:bP w A n l)(hk:k<n):
  ∃b off,A=some ⟨b,off,none⟩∧∃hk:k<l.length,w.cell? ⟨b,off+k,none⟩=some (.int .u64 (l[k]:Int)):=by
 obtain⟨b,off,e,hk',hc⟩:=h.at_ fS (by omega) hk;have:=hc 0 (by omega);rw [Nat.mul_one,Nat.add_zero] at this;exact⟨b,off,e,hk',this⟩
theorem Py{l:List UInt8}{u:Nat}(hW:Bt (W:Int)=true):(Gk l W u b).length≤l.length+8:=by
 have h8:=Bz.1 hW;unfold Gk;split
 ·rw [An,B9];omega
 ·simp
def xB(W:Nat)(s:List UInt8×Bool)(u:Nat):List UInt8×Bool:=(Gk s.1 W u (Cf W u),s.2&&(Gw W (Cf W u)==0))
def Xa(W:Nat)(L:List Nat)(k:Nat):List UInt8×Bool:=(L.take k).foldl (xB W) (Bn W L.length,true)
theorem uP(h:k<L.length):Xa W L (k+1)=xB W (Xa W L k) L[k]:=by
 unfold Xa;rw [List.take_add_one,Aj h,Option.toList_some,List.foldl_append];rfl
def qX(W:Nat)(m:List UInt8):Nat:=if(255:Int)<(m.length:Int)-W then 2 else 1
def lsF(W C kd:Nat)(fi:Bool)(V:Nat)(m:List UInt8):List UInt8×Bool:=
 (Gk m V (((m.length:Int)-W) % 18446744073709551616).toNat (Cf V (((m.length:Int)-W) % 18446744073709551616).toNat)++ [Ar (4*kd+C),Ar V],fi&&(Gw V (Cf V (((m.length:Int)-W) % 18446744073709551616).toNat)==0))
def lsG(W C K:Nat)(s:List UInt8×Bool):List UInt8×Bool:=
 lsF W C (if K=0 then 12 else 10) s.2 (qX W (s.1++Ak K (Ar (8+C)))) (s.1++Ak K (Ar (8+C))++Ak ((s.1++Ak K (Ar (8+C))).length % qX W (s.1++Ak K (Ar (8+C)))) 0)
def dX(W C:Nat)(L:List Nat)(typed:Bool):List UInt8×Bool:=lsG W C (if typed=true then 0 else L.length) (Xa W L L.length)
def Aal(W C:Nat)(L:List Nat)(typed:Bool)(w:World)(e:Ending)(w':World):Prop:=
 ∃A' k c',e= .returned (.tuple #[.slice A' k c',.bool (dX W C L typed).2])∧Below w.heap.size w w'∧k≤2000∧F4 w' w.heap.size A' k c' (dX W C L typed).1
def Ac0(W n:Nat)(L:List Nat)(w:World)(b f i:Value)(wr:World):Prop:=
 ∃(k:Nat) (A2:Option Addr) (k2 c2:Nat),k≤n∧b= .slice A2 k2 c2∧f= .bool (Xa W L k).2∧i= .int .i64 k∧F4 wr w.heap.size A2 k2 c2 (Xa W L k).1∧k2≤8+8*k∧Below w.heap.size w wr
def Ac1(n:Nat)(typed:Bool)(T:UInt8)(m0:List UInt8)(w:World)(b kd i:Value)(wr:World):Prop:=
 ∃(k:Nat) (A2:Option Addr) (k2 c2:Nat),k≤n∧b= .slice A2 k2 c2∧kd= .int .i64 (if k=0 then 12 else 10)∧i= .int .i64 k∧F4 wr w.heap.size A2 k2 c2 (m0++Ak k T)∧(typed=true→k=0)∧Below w.heap.size w wr
def Ac2(m1:List UInt8)(V:Nat)(w:World)(b:Value)(wr:World):Prop:=
 ∃(A2:Option Addr) (k2 c2 j:Nat),b= .slice A2 k2 c2∧F4 wr w.heap.size A2 k2 c2 (m1++Ak j 0)∧j≤1∧(j=1→V=2∧k2 % 2=0)∧Below w.heap.size w wr
def Abm:Value→Nat
 | .slice _ n _=>n
 |_=>0
theorem mV(A:Option Addr)(n c W C:Nat)(L:List Nat)(typed:Bool)(w:World)(h:bP w A n L)(hn:n≤100)(hW:Bt (W:Int)=true)(hC:Wd W=C)(hC0:Jj W=0)(hC3:C≤3)(hub:∀u∈L,((u:Nat):Int)<18446744073709551616):
  Calls Ad 36 #[.slice A n c,.int .i64 W,.bool typed] w (Aal W C L typed w):=by
 have a1:L.length=n:=h.1;have bb:=Hd h;have HW:=Hd hW;have bl:=Hd hub;have al:=Hd a1;have db:1≤W∧W≤8:=by have:=Bz.1 hW;omega
 have aa:Cf W n=true:=by
  unfold Cf;refine decide_eq_true (.inr ?_);have h1:2^8≤2^(8*W):=Nat.pow_le_pow_right (by decide) (by omega);omega
 have bv:IntKind.u64.wrap (n:Int)=n:=by rw [IntKind.wrap_u64];omega
 have e1:Gw W (Cf W n)=0:=by rw [aa];exact Ts hW rfl
 have e2:Gk [] W n (Cf (W:Int).toNat n)=Bn W n:=by rw [Ao,aa];unfold Gk;rw [if_pos ⟨hW,rfl⟩];rfl
 have HC:=Hd hC;have ba:=Hd hC0;have E2:=Hd e2;have E1:=Hd e1;clear h hW hub a1 hC hC0 aa e1 e2;go_enter func36,ntmps36;go_wp2_with fail;go_at_call 6;refine(Ii none 0 0 n W [] _ (Is.nil _ _) (by omega) (by omega) (by omega)).mono ?_;rintro e w1 ⟨A1,n1,c1,rfl,hO,X⟩;rw [E2.o] at hO;rw [Ao,E1.o];obtain rfl:W=n1:=by rw [←hO.1,B9]
 have HO:=Hd hO;have HB:=Hd X;clear hO X bv E1 E2;go_wp2_with fail;go_at_call 32;refine(Gm W _).mono ?_;rw [HC.o,ba.o];rintro e w2 ⟨rfl,rfl⟩;go_wp2_with fail;go_loopw [8,10,13] (fun b f i wr=>Ac0 W n L w b f i wr) (fun _ _ i _=>n-(intOf i).toNat)
 case atStart=>
  refine⟨0,A1,W,c1,Aq _,rfl,rfl,rfl,?_,by omega,HB.o⟩;show F4 _ _ _ _ _ (Bn W L.length);rw [al.o];exact HO.o
 case round=>
  clear HO HB;obtain⟨k,A2,k2,c2,hk,rfl,rfl,rfl,ar,ct,X⟩:=hrel;have d:=Hd ar;have HB:=Hd X;clear ar;by_cases af:k<n
  ·obtain⟨b1,o1,ea,az,v⟩:=dN (bb.o.pure X) af;subst ea;have ah:=bl.o L[k] (List.getElem_mem az);have H:=uP (W:=W) az;obtain⟨u,hu⟩:∃u,L[k]=u:=⟨_,rfl⟩;rw [hu] at H v ah;obtain⟨m,fi,hm⟩:∃m fi,Xa W L k=(m,fi):=⟨_,_,rfl⟩;rw [hm] at H d⊢;have z:=Py (l:=m) (W:=W) (u:=u) (b:=Cf W u) HW.o;rw [d.o.1] at z;have HS:=Hd (show Xa W L (k+1)=(Gk m W u (Cf W u),fi&&(Gw W (Cf W u)==0)) from H);obtain⟨er,q⟩:∃x,Gw W (Cf W u)=x:=⟨_,rfl⟩;obtain⟨m3,G⟩:∃x,Gk m W u (Cf W u)=x:=⟨_,rfl⟩;rw [q,G] at HS;rw [G] at z;have O:=Hd q;have bf:=Hd G;have bm:=Hd ah;have cs:(0:Int)≤k:=by omega
   have cw:(k:Int)<n:=by omega
   have bw:IntKind.i64.wrap ((k:Int)+1)=(k:Int)+1:=Ag _ (by omega);clear H ah q G hu X hm;go_wp2_with fail;go_at_call 6;refine(Ii A2 k2 c2 u W m _ d.o.is d.o.cap.1 (by omega) bm.o).mono ?_;rintro e w3 ⟨A3,n3,c3,rfl,D,av⟩;rw [Ao,bf.o] at D;rw [Ao,O.o];have bh:=Hd (Own.rebase (B':=w.heap.size) D HB.o.size);have cx:n3≤k2+8:=by rw [←D.1];exact z
   replace HB:=Hd (Ba HB.o av);clear D av v;cases fi
   all_goals
    go_wp2_with fail;go_roundw
    case rel=>exact⟨k+1,A3,n3,c3,af,rfl,by rw [HS.o];rfl,by go_num,by rw [HS.o];exact bh.o,by omega,HB.o⟩
    case measure=>simp [intOf];omega
  ·have bt:k=n:=by omega
   subst bt;have hd:decide (k<k)=false:=by simp
   obtain⟨m,fi,hm⟩:∃m fi,Xa W L k=(m,fi):=⟨_,_,rfl⟩;rw [hm] at d⊢;have HM:=Hd hm;obtain⟨T,hT⟩:∃T:UInt8,T=Ar (8+C):=⟨_,rfl⟩;have HT:=Hd hT;have bk:=Hd (show T.toNat=8+C by rw [hT,UInt8.toNat_ofNat'];omega);have bg:=Hd d.o.1;clear hT af X hm;go_wp2_with fail;clear hd;go_loopw [8,16,17] (fun b kd i wr=>Ac1 k typed T m w b kd i wr) (fun _ _ i _=>k-(intOf i).toNat)
   case atStart=>exact⟨0,A2,k2,c2,Aq _,rfl,rfl,rfl,by simpa using d.o,fun _=>rfl,HB.o⟩
   case round=>
    clear d HB;obtain⟨K,A4,k4,c4,hK,rfl,rfl,rfl,R,ag,aw⟩:=hrel;have B:=Hd R;have HB:=Hd aw;have ae:(m++Ak K T).length=k4:=R.1;have cu:k4≤1000:=by
     rw [An,List.length_replicate,bg.o] at ae;omega
    have P:=Hd ae;clear R aw ae;have Z:(typed=false∧K<k)∨K=(if typed=true then 0 else k)∧(decide (K<k)=false∨typed=true∧decide (K<k)=true):=by
     by_cases s:K<k
     ·cases htp:typed with
      |true=>exact .inr ⟨ag htp,.inr ⟨rfl,decide_eq_true s⟩⟩
      |false=>exact .inl ⟨rfl,s⟩
     ·refine .inr ⟨?_,.inl (decide_eq_false s)⟩;split
      ·exact ag ‹_›
      ·omega
    clear ag;rcases Z with⟨bu,s⟩|⟨aq,y⟩
    ·subst bu;have cd:IntKind.i64.wrap (8+(C:Int))=8+C:=Ag _ (by omega);have da:IntKind.u8.wrap (8+(C:Int))=8+C:=by rw [IntKind.wrap_u8];omega
     have bw:IntKind.i64.wrap ((K:Int)+1)=(K:Int)+1:=Ag _ (by omega);go_wp2_with (at_builtin;refine Dh _ rfl (.tmp 73) (.tmp 77) _ rfl 5 _ 1 1 underlying22 Gc rfl (by omega) Cn Gs _ _ _ _ _ rfl (B.o.pure ((Af _ _).alloc (Ae _) _)) _ _ _ _ rfl (Ys _ _ T (by rw [bk.o];omega)) (by omega) (by have:=HB.o.size;simp;omega) ?_;intro A5 c5 w5 a p t;have g:=Hd a;replace HB:=Hd (B8 (HB.o.alloc HB.o.size _) p (by rintro j ⟨ad,e,rfl⟩;exact(B.o.addr ad e).2.1));clear a p t);go_roundw
     case rel=>
      refine⟨K+1,A5,k4+1,c5,s,rfl,by rw [if_neg (Nat.succ_ne_zero K)],by go_num,?_,fun h=>(by cases h),HB.o⟩;have:=g.o;rw [List.append_assoc,show [T]=Ak 1 T from rfl,List.replicate_append_replicate] at this;exact this
     case measure=>simp [intOf];omega
    ·obtain⟨kd,F⟩:∃x:Nat,(if K=0 then 12 else 10)=x:=⟨_,rfl⟩;have N:(if K=0 then(12:Int) else 10)=(kd:Int):=by rw [←F];split <;>rfl
     have cb:kd≤12:=by rw [←F];split <;>omega
     rw [N];have bd:=Hd F;have be:=Hd aq;have ak:=Hd y;clear F N aq y hK;obtain y|⟨htp,y⟩:=ak.o
     all_goals
      clear ak;go_upto_if 83 with fail
      clear y
      try clear htp
      go_cut [18] from 21 to 117 (fun u18 wx=>∃wy,wy=wx∧∃V:Nat,u18= .int .i64 V∧(V=1∨V=2)∧V=qX W (m++Ak K T)∧wx=wr)
      case first=>
       have a6:IntKind.i64.wrap ((k4:Int)-W)=(k4:Int)-W:=Ag _ (by omega);have M:qX W (m++Ak K T)=if(255:Int)<(k4:Int)-W then 2 else 1:=by unfold qX;rw [P.o]
       by_cases r:(255:Int)<(k4:Int)-W
       ·have hd:decide ((255:Int)<(k4:Int)-W)=true:=decide_eq_true r;rw [if_pos r] at M;go_wp2_with fail;go_meet;exact⟨_,rfl,2,rfl,.inr rfl,M.symm,rfl⟩
       ·have hd:decide ((255:Int)<(k4:Int)-W)=false:=decide_eq_false r;rw [if_neg r] at M;go_wp2_with fail;go_meet;exact⟨_,rfl,1,rfl,.inl rfl,M.symm,rfl⟩
      case rest=>
      obtain⟨w8,rfl,V,rfl,M,au,rfl⟩:=hcut;have bn:=Hd au;clear au;go_wp2_with fail;go_loopw [8] (fun b wr=>Ac2 (m++Ak K T) V w b wr) (fun b _=>Abm b % V)
      case atStart=>exact⟨A4,k4,c4,0,rfl,by simpa using B.o,by omega,fun h=>absurd h (by decide),HB.o⟩
      case round=>
       clear B HB;obtain⟨A5,k5,c5,j,rfl,S,hj,ab,ax⟩:=hrel;have g:=Hd S;have HB:=Hd ax;have a0:k5=k4+j:=by rw [←S.1,An,List.length_replicate,P.o]
       have cv:k5≤1001:=by omega
       clear S ax;by_cases hr:k5 % V=0
       ·have a2:((k5:Int) % (V:Int) != 0)=false:=by
         rw [show(k5:Int) % (V:Int)=((k5 % V:Nat):Int) by simp,hr];rfl
        have ay:j=k4 % V:=by rcases M with rfl|rfl <;>omega
        have hD:dX W C L typed=lsF W C kd fi V (m++Ak K T++Ak j 0):=by
         unfold dX;rw [al.o,←be.o,HM.o];unfold lsG;rw [←HT.o,bd.o,←bn.o,P.o,←ay]
        unfold lsF at hD;rw [g.o.1] at hD;obtain⟨U,hU⟩:∃U:Nat,(((k5:Int)-W) % 18446744073709551616).toNat=U:=⟨_,rfl⟩;rw [hU] at hD;have J:(U:Int)<18446744073709551616:=by omega
        have br:IntKind.u64.wrap ((k5:Int)-W)=U:=by rw [IntKind.wrap_u64];omega
        have a5:(V:Int)=((Ar V).toNat:Int):=by rw [UInt8.toNat_ofNat'];omega
        have a4:4*(kd:Int)+C=((Ar (4*kd+C)).toNat:Int):=by rw [UInt8.toNat_ofNat'];omega
        have a6:IntKind.i64.wrap ((k5:Int)-W)=(k5:Int)-W:=Ag _ (by omega);have cz:IntKind.i64.wrap (4*(kd:Int))=4*kd:=Ag _ (by omega);have c0:IntKind.i64.wrap (4*(kd:Int)+(C:Int))=4*kd+C:=Ag _ (by omega);have c8:IntKind.u8.wrap (4*(kd:Int)+(C:Int))=4*kd+C:=by rw [IntKind.wrap_u8];omega
        have c9:IntKind.u8.wrap (V:Int)=V:=by rw [IntKind.wrap_u8];omega
        obtain⟨er,q⟩:∃x,Gw V (Cf V U)=x:=⟨_,rfl⟩;rw [q] at hD;have HD:=Hd hD;have O:=Hd q;have bj:=Hd a4;have bo:=Hd a5;have I:=Hd J;have z:=Py (l:=m++Ak K T++Ak j 0) (W:=V) (u:=U) (b:=Cf V U) (by rcases M with rfl|rfl <;>decide);rw [g.o.1] at z;clear q a4 a5 J hU hD hr ab a0 ay;go_wp2_with fail;go_at_call 6;refine(Ii A5 k5 c5 U V _ _ g.o.is g.o.cap.1 (by omega) I.o).mono ?_;rintro e w6 ⟨A6,n6,c6,rfl,E,Y⟩;rw [Ao] at E;rw [Ao,O.o];have an:=Hd E;have cy:n6≤1010:=by rw [←E.1];omega
        have a9:=Hd Y.size;have ao:=Hd HB.o.size;replace HB:=Hd (Ba HB.o Y);clear E Y br a6 I;cases fi
        all_goals
         go_wp2_with (at_builtin;refine Dh _ rfl (.tmp 103) (.tmp 111) _ rfl 5 _ 1 1 underlying22 Gc rfl (by omega) Cn Gs _ _ _ _ _ rfl (an.o.pure ((Af _ _).alloc (Ae _) _)) _ _ _ _ rfl (Tk rfl bj.o bo.o) (by omega) (by have:=a9.o;simp;omega) ?_;intro A7 c7 w7 a p t;have Q:=Hd (Own.rebase (B':=w.heap.size) a ao.o);replace HB:=Hd (B8 (HB.o.alloc HB.o.size _) p (by rintro i ⟨ad,e,rfl⟩;exact Am ao.o (an.o.addr ad e).2.1));clear a p t);go_wp2_with fail;go_ret2;exact⟨_,_,_,by rw [HD.o];rfl,HB.o,by omega,by rw [HD.o];exact Q.o⟩
       ·have a2:((k5:Int) % (V:Int) != 0)=true:=by
         rw [show(k5:Int) % (V:Int)=((k5 % V:Nat):Int) by simp];simpa using(show((k5 % V:Nat):Int)≠0 by omega)
        obtain⟨rfl,rfl⟩:V=2∧j=0:=by
         rcases M with rfl|rfl
         ·omega
         ·refine⟨rfl,?_⟩;by_cases h:j=1
          ·exact absurd (ab h).2 hr
          ·omega
        have am:=Hd hr;clear hr ab a0;go_wp2_with (at_builtin;refine Dh _ rfl (.tmp 89) (.tmp 90) _ rfl 5 _ 1 1 underlying22 Gc rfl (by omega) Cn Gs _ _ _ _ _ rfl (g.o.pure ((Af _ _).alloc (Ae _) _)) _ _ _ _ rfl (Ys _ _ (0:UInt8) rfl) (by omega) (by have:=HB.o.size;simp;omega) ?_;intro A7 c7 w7 a p t;have Q:=Hd a;replace HB:=Hd (B8 (HB.o.alloc HB.o.size _) p (by rintro i ⟨ad,e,rfl⟩;exact(g.o.addr ad e).2.1));clear a p t);go_roundw
        case rel=>
         refine⟨A7,_,c7,1,rfl,?_,Ae _,fun _=>⟨rfl,by have:=am.o;omega⟩,HB.o⟩;have:=Q.o;simpa using this
        case measure=>
         have:=am.o;simp only [Abm];simp;omega
theorem cJ(A:Option Addr)(n c M:Nat)(h:M≤c)(w:World):(Instr.sliceAt 28 (.slice A n c) none (some (.int .i64 M)) none).run Ad w= .ok (.slice A M c) w:=by
 have ht:Ad.underlying 28=some (.slice (Ad.elem 28)):=by kernel_rfl
 have a:(sizeOf (Ad.elem 28)).run Ad w= .ok 1 w:=by kernel_rfl
 rw [run_sliceAt_slice (h:=ht),run_slice_h (ht:=ht) (h0:=by omega) (h2:=by omega),a];simp [Result.andThen,sliced];intro _;cases A <;>simp [Addr.add]
def xA(W u:Nat):Bool:=W==2&&decide ((u:Int)<256)||(W==4&&decide ((u:Int)<65536)||W==8&&decide ((u:Int)<4294967296))
def Z1(W:Nat)(L:List Nat):Bool:=decide ((1:Int)<W)&&L.all (xA W)
def oF(W C:Nat)(L:List Nat)(typed:Bool):Prop:=(dX W C L typed).2=true→B5 (dX W C L typed).1 2000=if Z1 W L=true then((W:Int),10) else(0,0)
theorem uN(h:k<L.length):Z1 W (L.take (k+1))=(Z1 W (L.take k)&&xA W L[k]):=by
 unfold Z1;rw [List.take_add_one,Aj h,Option.toList_some,List.all_append,Bool.and_assoc];simp
theorem Xm(A:Option Addr)(n c W C:Nat)(x:Int)(typed:Bool)(L:List Nat)(w:World)(h:bP w A n L)(hc:n≤c)(hn:n≤100)(hx:wS x W C)(hub:∀u∈L,((u:Nat):Int)<18446744073709551616)(hk:oF W C L typed):
  Calls Ad 9 #[.slice A n c,.int .i64 x,.bool typed] w (Adh (.bool true) w):=by
 have G:min (n:Int) 100=n:=by omega
 have F:=cJ A n c n hc;have ai:1≤W∧W≤8:=by have:=Bz.1 hx.w;omega
 have I:=hx.sh;have y:=Hd h;have r:=Hd hx;have M:=Hd h.1;have O:=Hd hub;have U:=Hd hk;clear h hub hk hx;go_enter func9,ntmps9;go_wp2_with fail;go_at_call 18;refine(Qk x 4 _ (by decide) (by decide)).mono ?_;rintro e w1 ⟨rfl,rfl⟩;go_wp2_with fail;go_at_call 36;rw [I];clear I F G;refine(mV A n c W C L typed _ y.o hn r.o.w r.o.c r.o.e r.o.c3 O.o).mono ?_;rintro e Y ⟨Z,k2,c2,rfl,b,af,f⟩;have j:=Hd b;have l:=U.o;unfold oF at l;obtain⟨D,fi,V⟩:∃D fi,dX W C L typed=(D,fi):=⟨_,_,rfl⟩;rw [V] at f l⊢;replace y:=Hd (y.o.pure b);clear b U V;cases fi with
 |false=>
  clear l;go_wp2_with fail;go_at_call 13;refine(Dy _).mono ?_;rintro e w7 ⟨rfl,b⟩;replace j:=Hd (Ba j.o b);clear b;go_wp2;go_ret;exact⟨rfl,j.o⟩
 |true=>
  have m:=Hd (l rfl);have J:=Hd f.is;have K:=Hd f.cap.1;clear l f;go_wp2_with fail;go_loopw [10,11] (fun a i wr=>∃(k:Nat) (nb:Bool),a= .bool nb∧i= .int .i64 k∧k≤n∧Below Y.heap.size Y wr∧Z1 W (L.take k)=nb) (fun _ i _=>n-(intOf i).toNat)
  case atStart=>exact⟨0,_,rfl,rfl,Aq _,Af _ _,by unfold Z1;simp⟩
  case round=>
   obtain⟨k,nb,rfl,rfl,ah,b,H⟩:=hrel;replace j:=Hd (Ba j.o b);replace y:=Hd (y.o.pure b);replace J:=Hd (J.o.pure b);have B:=Hd b;have p:=Hd H;clear b H;by_cases t:k<n∧(1:Int)<W
   ·obtain⟨hk,ad⟩:=t;obtain⟨b1,o1,ea,R,s⟩:=dN y.o hk;subst ea;have v:=uN (W:=W) R;obtain⟨u,T⟩:∃u,L[k]=u:=⟨_,rfl⟩;obtain⟨d,q⟩:∃d,xA W u=d:=⟨_,rfl⟩;rw [T,q,p.o] at v;rw [T] at s;have N:=Hd v;have S:(0:Int)≤k:=by omega
    have ag:(k:Int)<n:=by omega
    have aj:IntKind.i64.wrap ((k:Int)+1)=(k:Int)+1:=Ag _ (by omega);have P:W=2∧decide ((u:Int)<256)=d∨W=4∧decide ((u:Int)<65536)=d∨W=8∧decide ((u:Int)<4294967296)=d:=by
     have:=Bz.1 r.o.w;have h3:W=2∨W=4∨W=8:=by omega
     rcases h3 with rfl|rfl|rfl <;>simpa [xA] using q
    clear v T q r m j J p;obtain⟨rfl,q⟩|⟨rfl,q⟩|⟨rfl,q⟩:=P
    all_goals
     cases nb <;>cases d
     all_goals
      go_wp2_with fail;go_roundw
      case rel=>exact⟨k+1,_,rfl,by go_num,hk,B.o,N.o⟩
      case measure=>simp [intOf];omega
   ·have X:Z1 W L=nb:=by
     rw [←p.o];by_cases h1:(1:Int)<W
     ·rw [List.take_of_length_le (by have:=M.o;omega)]
     ·unfold Z1;rw [decide_eq_false h1];rfl
    have g:=m.o;rw [X] at g;obtain⟨a,er,g,E⟩:∃a er:Int,B5 D 2000=(a,er)∧(nb=true∧a=W∧er=10∨nb=false∧a=0∧er=0):=by
     cases nb
     ·exact⟨_,_,g,.inr ⟨rfl,rfl,rfl⟩⟩
     ·exact⟨_,_,g,.inl ⟨rfl,rfl,rfl⟩⟩
    replace m:=Hd g;have z:=Hd E;have Q:decide (k<n)=false∨decide (k<n)=true∧decide ((1:Int)<W)=false:=by
     by_cases hk:k<n
     ·exact .inr ⟨decide_eq_true hk,decide_eq_false fun h=>t ⟨hk,h⟩⟩
     ·exact .inl (decide_eq_false hk)
    have S:(0:Int)≤k:=by omega
    clear X g E t r p;obtain q|⟨q,ae⟩:=Q
    all_goals
     go_wp2_with fail;go_at_call 29;refine(J5 Z k2 c2 2000 a er _ _ J.o K.o (by omega) (by decide) m.o).mono ?_;rintro e w5 ⟨rfl,b⟩;replace j:=Hd (Ba j.o b);clear b B;obtain⟨rfl,rfl,rfl⟩|⟨rfl,rfl,rfl⟩:=z.o
     all_goals
      clear z;go_wp2_with fail;go_at_call 13;refine(Dy _).mono ?_;rintro e w7 ⟨rfl,b⟩;replace j:=Hd (Ba j.o b);clear b;go_wp2;go_ret;exact⟨rfl,j.o⟩
def Kz:List Nat:=[0,127,128,255,256,32767,32768,65535,65536,2147483647,2147483648,4294967295,4294967296,9223372036854775807,18446744073709551615,18446744073709551488,18446744073709551487,18446744073709518847]
theorem Yk:∀u∈Kz,((u:Nat):Int)<18446744073709551616:=by decide
def Zc:List (Nat×Nat):=[(1,0),(2,1),(4,2),(8,3)]
theorem vQ:∀u∈Kz,∀p∈Zc,oJ (Cf p.1 u) p.1 u (Ar (8+p.2)) (Fq u)∧oJ (D2 p.1 (wrap64 u)) p.1 (wrap64 u % 18446744073709551616).toNat (Ar (4+p.2)) (Ml (wrap64 u)):=by
 unfold oJ;decide +kernel
theorem dY:∀i,i<18→∀p∈Zc,∀b:Bool,oF p.1 p.2 (Kz.drop i) b∧oF p.1 p.2 (Kz.take (i % 3)) b:=by
 unfold oF;decide +kernel
theorem zQ(h:k<4):∃W:Nat,(W=1∨W=2∨W=4∨W=8)∧wrap64 (2^k)=(W:Int)∧wS (k:Int) W k∧(W,k)∈Zc:=by
 have:k=0∨k=1∨k=2∨k=3:=by omega
 rcases this with rfl|rfl|rfl|rfl
 ·exact⟨1,by omega,by simp [wrap64],⟨by simp [wrap64],by decide,by decide,by decide,by decide⟩,by decide⟩
 ·exact⟨2,by omega,by simp [wrap64],⟨by simp [wrap64],by decide,by decide,by decide,by decide⟩,by decide⟩
 ·exact⟨4,by omega,by simp [wrap64],⟨by simp [wrap64],by decide,by decide,by decide,by decide⟩,by decide⟩
 ·exact⟨8,by omega,by simp [wrap64],⟨by simp [wrap64],by decide,by decide,by decide,by decide⟩,by decide⟩
section
variable (l:List UInt8) (p q t v:Int)
end
section
variable {l:List UInt8} {go:Rq→Bk→Bk×Int} (hg:∀r s,(go r s).2≠10) (r:Rq)
include hg
end
theorem iC(A A':Option Addr)(n c m c':Nat)(l l':List UInt8)(w:World)(h:Ca w A n l)(hc:n≤c)(h':Ca w A' m l')(hc':m≤c')
  (hq:∀N,N % 8=0→N≤m→((B5 (l.take 1500) 2000).2=0∨(B5 (l.take 1500) 2000).2=10)→B5 (l'.take N++l.take 1500) 2000=if(B5 (l.take 1500) 2000).2=10 then((B5 (l.take 1500) 2000).1+((l'.take N).length:Int),10) else B5 (l.take 1500) 2000)
  (hq2:(B5 (l.take 1500) 2000).2≠0→(B5 (l.take 1500) 2000).2≠10→(B5 (l.take 1500) 2000).1=0) (hq3:0≤(B5 (l.take 1500) 2000).1∧(B5 (l.take 1500) 2000).1≤1500):
  Calls Ad 14 #[.slice A n c,.slice A' m c'] w (Adh (.bool true) w):=by
 have hm:=h'.1;obtain⟨N,hN,E,F,ap⟩:∃N:Nat,min (m:Int) 200/8*8=(N:Int)∧N % 8=0∧N≤m∧N≤200:=by
  by_cases h2:m≤200
  ·exact⟨m/8*8,by omega,by omega,by omega,by omega⟩
  ·exact⟨200,by omega,by omega,by omega,by omega⟩
 have HQ:=Hd (hq N E F);have K:=Hd hq2;have L:=Hd hq3;clear hq hq2 hq3;have J:=Hd h';have z:=Hd hm;have am:=Hd E;have HN:=Hd hN;have af:=cut_run A' m c' N (by omega);have Y:=Hd h;clear h h' hm E hN;go_enter func14,ntmps14;go_wp2_with fail;go_at_call 28;refine(Nk A n c l _ Y.o hc).mono ?_;rintro e w1 ⟨A1,X,c1,rfl,aq,G,I⟩;have W:=G.cap.1;have p:=Hd G.is;have d:=Hd I;replace J:=Hd (J.o.pure I);generalize l.take 1500=l at p HQ K L;clear G I Y;have al:=Hd p.o.1;obtain⟨⟨a,D⟩,M⟩:∃x,B5 l 2000=x:=⟨_,rfl⟩;have b:=HQ.o;rw [M] at b;have O:(l'.take N).length=N:=by rw [Au,z.o];omega
 rw [O] at b;simp only at b;have t:=Hd b;have Z:=Hd M;have T:=Hd (show D≠0→D≠10→a=0 by have:=K.o;rw [M] at this;exact this);have S:=Hd (show 0≤a∧a≤1500 by have:=L.o;rw [M] at this;exact this);clear b M O;go_wp2_with fail;go_at_call 29;refine(J5 A1 X c1 2000 a D l _ p.o W (by omega) (by decide) Z.o).mono ?_;rintro e w2 ⟨rfl,f⟩;replace p:=Hd (p.o.pure f);replace d:=Hd (Ba d.o f);replace J:=Hd (J.o.pure f);clear f Z;by_cases P:D=0
 ·subst P;have b:=t.o (.inl rfl);rw [if_neg (by decide)] at b;have B:=Hd b;have v:=Hd d.o.size;clear b t;go_upto_region 6 with fail
  rw [HN.o];go_wp2_with fail;go_at_call 12;refine(Mw A' N c' (l'.take N) _ (J.o.take Cn F) (by omega)).mono ?_;rintro e w3 ⟨A3,n3,c3,rfl,k,g⟩;obtain rfl:N=n3:=by rw [←k.1,Au,z.o];omega
  have q:=Hd k;replace p:=Hd (p.o.pure g);replace d:=Hd (Ba d.o g);have u:=Hd g;have C:=Hd (Am v.o (Ae w2.heap.size));clear k g;go_wp2_with (at_builtin;refine Dh _ rfl (.tmp 38) (.tmp 39) _ rfl 5 _ 1 1 underlying22 Gc rfl (by omega) Cn Gs _ _ _ _ _ rfl q.o _ _ _ _ rfl p.o (by omega) u.o.size ?_;intro R V w4 i s H;have r:=Hd i;have y:=Hd s;clear i s H);replace d:=Hd (B8 d.o y.o (by rintro j ⟨U,e,rfl⟩;exact Am C.o (q.o.addr U e).2.1));go_wp2_with fail;go_at_call 29;refine(J5 R (N+X) V 2000 _ _ (l'.take N++l) _ r.o.is r.o.cap.1 (by omega) (by decide) B.o).mono ?_;rintro e w5 ⟨rfl,f⟩;replace d:=Hd (Ba d.o f);clear f;go_wp2_with fail;go_at_call 13;refine(Dy _).mono ?_;rintro e w7 ⟨rfl,f⟩;replace d:=Hd (Ba d.o f);clear f;go_wp2;go_ret;exact⟨rfl,d.o⟩
 by_cases Q:D=10
 ·subst Q;have b:=t.o (.inr rfl);rw [if_pos rfl] at b;have B:=Hd b;have v:=Hd d.o.size;have ar:IntKind.i64.wrap (a+(N:Int))=a+N:=by have:=S.o;exact Ag _ (by omega)
  clear b t;go_upto_region 6 with fail
  rw [HN.o];go_wp2_with fail;go_at_call 12;refine(Mw A' N c' (l'.take N) _ (J.o.take Cn F) (by omega)).mono ?_;rintro e w3 ⟨A3,n3,c3,rfl,k,g⟩;obtain rfl:N=n3:=by rw [←k.1,Au,z.o];omega
  have q:=Hd k;replace p:=Hd (p.o.pure g);replace d:=Hd (Ba d.o g);have u:=Hd g;have C:=Hd (Am v.o (Ae w2.heap.size));clear k g;go_wp2_with (at_builtin;refine Dh _ rfl (.tmp 38) (.tmp 39) _ rfl 5 _ 1 1 underlying22 Gc rfl (by omega) Cn Gs _ _ _ _ _ rfl q.o _ _ _ _ rfl p.o (by omega) u.o.size ?_;intro R V w4 i s H;have r:=Hd i;have y:=Hd s;clear i s H);replace d:=Hd (B8 d.o y.o (by rintro j ⟨U,e,rfl⟩;exact Am C.o (q.o.addr U e).2.1));go_wp2_with fail;go_at_call 29;refine(J5 R (N+X) V 2000 _ _ (l'.take N++l) _ r.o.is r.o.cap.1 (by omega) (by decide) B.o).mono ?_;rintro e w5 ⟨rfl,f⟩;replace d:=Hd (Ba d.o f);clear f;go_wp2_with fail;go_at_call 13;refine(Dy _).mono ?_;rintro e w7 ⟨rfl,f⟩;replace d:=Hd (Ba d.o f);clear f;go_wp2;go_ret;exact⟨rfl,d.o⟩
 ·have t0:(D != 0)=true:=by simpa using P
  have t1:(D != 10)=true:=by simpa using Q
  obtain rfl:=T.o P Q;clear P Q;go_wp2_with fail;go_at_call 13;refine(Dy _).mono ?_;rintro e w7 ⟨rfl,f⟩;replace d:=Hd (Ba d.o f);clear f;go_wp2;go_ret;exact⟨rfl,d.o⟩
end Go.Proofs.YtejpbijeifjdeaaGreat
