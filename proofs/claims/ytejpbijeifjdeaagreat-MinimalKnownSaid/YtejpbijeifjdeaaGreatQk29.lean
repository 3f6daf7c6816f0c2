/- Parts of the proof. -/
import Derived.Test.YtejpbijeifjdeaaGreatQk28
set_option maxHeartbeats 4000000
set_option maxRecDepth 100000
open Go.Value renaming int→Aa
open Go.IntKind renaming i64→Ab,u64→Ac
open Nat renaming le_refl→Ae
open Go.RowKit.Below renaming refl→Af
open Go.IntWalk renaming i64_in→Ag
open Int renaming toNat_natCast→Ao
open Go.Proofs.Tryz
open Go.Proofs.Tryz renaming prog→Ad
namespace Go.Proofs.YtejpbijeifjdeaaGreat
open Go.RowKit Go.Acc
variable {t p q v f:Int}{l:List UInt8}
theorem xY(h:Bs t=true):(if t=0 then(1:Int) else if t=1 then 2 else if t=2 then 3 else 4)=Fz t:=by
 rcases fF (Zz h) with rfl|rfl|rfl|rfl|rfl|rfl
 ·rfl
 ·rfl
 ·rfl
 ·exact absurd h (by decide)
 ·exact absurd h (by decide)
 ·rfl
theorem Aax(h:Bs t=false):Fz t=5:=by
 have h0:t≠0:=by rintro rfl;exact absurd h (by decide)
 have h1:t≠1:=by rintro rfl;exact absurd h (by decide)
 have h2:t≠2:=by rintro rfl;exact absurd h (by decide)
 have h3:t≠26:=by rintro rfl;exact absurd h (by decide)
 unfold Fz;rw [if_neg h0,if_neg h1,if_neg h2,if_neg h3]
theorem zJ(t r:Int)(w:World)(h:(if t=0 then(1:Int) else if t=1 then 2 else if t=2 then 3 else 4)=r):Calls Ad 163 #[Aa Ab t] w (Adh (Aa Ab r) w):=by
 subst h;exact(rU t w).mono fun e w' ⟨h1,h2⟩=>⟨h1,by subst h2;exact Af _ _⟩
theorem K7(t:Int)(b:Bool)(w:World)(h:Bs t=b):Calls Ad 97 #[Aa Ab t] w (Adh (.bool b) w):=by
 subst h;exact(N9 t w).mono fun e w' ⟨h1,h2⟩=>⟨h1,by subst h2;exact Af _ _⟩
theorem Rf(A:Option Addr)(n c:Nat)(p q t v a er:Int)(l:List UInt8)(w:World)(hl:Ca w A n l)(hn:n≤1099511627776)(h1:By l p q t v=a)(h2:B7 l p q t v=er):
  Calls Ad 99 #[.slice A n c,.agg (Adl p q t v)] w (Adh (.tuple #[Aa Ab a,Aa Ab er]) w):=by
 subst h1 h2;exact Fb A n c p q t v l w hl (by omega)
theorem M5(A:Option Addr)(n c:Nat)(p q t v a x er:Int)(l:List UInt8)(w:World)(hl:Ca w A n l)(hn:n≤1099511627776)(h1:F6 l p q t v=a)(h2:G3 l p q t v=x)(h3:F7 l p q t v=er):
  Calls Ad 166 #[.slice A n c,.agg (Adl p q t v)] w (Adh (.tuple #[Aa Ab a,Aa Ab x,Aa Ab er]) w):=by
 subst h1 h2 h3;exact fI A n c p q t v l w hl (by omega)
theorem xM{E:Il}{g:E9}{s:Bk}{w:World}(h:D9 E g s w){x:Int}(hx:s.left-1=x):D9 E g s.burn (w.setCell ⟨E.bw,1,none⟩ (Aa Ab x))∧Ee E g g w (w.setCell ⟨E.bw,1,none⟩ (Aa Ab x)):=by
 subst hx;have d:Fr (fun k=>k=E.bw) w (w.setCell ⟨E.bw,1,none⟩ (Aa Ab (s.left-1))):=Fr.setCell (S:=fun k=>k=E.bw) (Fr.refl _ _) (fun _=>rfl) _;have f:=h.ok;have q:=f.w0;have r:=f.w2;obtain⟨i,t,l,j,u,m,h1,h2,h3,n,o⟩:=h.R;refine⟨⟨f,h.b.fr d ?_,⟨i,t,l,j,u,m,h1.set_ 1 _,h2.fr d ?_,h3.fr d ?_,n,o⟩,Nat.le_trans h.sz d.size⟩,d.mono ?_,fun _ _ h=>h⟩
 ·intro c a e;have:=f.hA c a;have e:c.block=E.bw:=e;omega
 ·intro c a e;have:=(h2.addr c a).2.1;have e:c.block=E.bw:=e;omega
 ·intro c a e;have:=(h3.addr c a).2.1;have e:c.block=E.bw:=e;omega
 ·rintro k _ rfl p;exact p.1 rfl
theorem jT(h:F7 l p q t v=0)(hi:Bs t=false):F6 l p q t v=By l p q t v:=by
 unfold F6;rw [if_pos h,if_neg (by rw [hi];decide)]
theorem Uc(E:Il):∀d,bT E (Cj E.l d) d
 |0=>fun g s p q t v w h hd hs hhs hr=>absurd hd (Nat.not_lt_zero _)
 |d+1=>fun g s p q t v w h hd hs hhs hr=>by
  have ih:=Uc E d;have bm:=Hd ih;have k:=Hd (h.alloc (.cells (Adl p q t v) 70));have f:=Hd (h.lone 70 (Adl p q t v));have m:=Hd ((Ee.refl E g w).alloc (.cells (Adl p q t v) 70));have ck:=h.ok.hn;have cb:=h.len;obtain⟨b1,b3,b4,b2⟩:=hr;simp only at b1 b3 b4 b2;clear ih h;have a4:8*s.left.toNat≤900000000:=by unfold Bk.size at hs;omega
  have c1:=k.o.c1;have u:=(k.o).c0;have z:=Be f.o.1;have B:=Bc f.o.1;have C:=Bb f.o.1;have D:=Bf f.o.1;by_cases hl:s.left<1
  ·have hR:Cj E.l (d+1) ⟨p,q,t,v⟩ s=(s,260):=by unfold Cj;rw [if_pos hl]
   have R:=Hd hR;clear hR;go_enter func89,ntmps89;go_wp2_with fail;go_ret;rw [R.o];exact⟨rfl,_,k.o,m.o⟩
  ·have b7:IntKind.i64.wrap (s.left-1)=s.left-1:=Ag _ (by omega);have cl:IntKind.i64.wrap (p+q)=p+q:=Ag _ (by omega);have b5:s.burn.size+8=s.size:=by unfold Bk.size Bk.burn;simp only;omega
   have bj:=O4 s.burn p (p+q) (Fz t);have ab:=Ef s.burn p (p+q) (Fz t);have am:=Ga s.burn p (p+q) (Fz t);have HL:=Hd (show 1≤s.left by omega);have f1:=k.o.frozen 1;have ba:=xM k.o (x:=s.left-1) rfl;have ap:=Hd ba;have bb:s.burn.o.length≤1073741824:=by have:=Du s.burn;omega
   clear ba;go_enter func89,ntmps89;go_upto_region 4 with fail
   replace k:=Hd ap.o.1;replace f:=Hd (f.o.to ap.o.2);replace m:=Hd (m.o.trans ap.o.2);clear ap f1 c1;generalize (w.alloc (.cells (Adl p q t v) 70)).setCell ⟨E.bw,1,none⟩ (Aa Ab (s.left-1))=w1 at k f m⊢;clear u z B C D;have u:=(k.o).c0;have z:=Be f.o.1;have B:=Bc f.o.1;have C:=Bb f.o.1;have D:=Bf f.o.1;obtain⟨s1,aw⟩:∃s1,s.burn.tell p (p+q) (Fz t)=s1:=⟨_,rfl⟩;rw [aw] at bj ab am;have bi:D0 ⟨p,q,t,v⟩ s=s1:=aw;have ay:s1.left.toNat<d:=by rw [ab];unfold Bk.burn;simp only;omega
   have az:s1.size≤899999993:=by omega
   have bg:s1.had.length+s1.left.toNat+1≤900000000:=by rw [ab,am];unfold Bk.burn;simp only;omega
   have aq:=Hd bi;have a5:=Hd aw;clear bj ab am bi aw b5 b7 hs hd a4 hhs hl;go_wp2_with fail;go_at_call 97;by_cases hi:Bs t=true
   ·refine(K7 t true _ hi).mono ?_;rintro e w4 ⟨rfl,F⟩;replace m:=Hd (m.o.below F);replace k:=Hd (k.o.pure F);replace f:=Hd (f.o.pure F);clear u z B C D;clear F;have u:=(k.o).c0;have z:=Be f.o.1;have B:=Bc f.o.1;have C:=Bb f.o.1;have D:=Bf f.o.1;have hR:Cj E.l (d+1) ⟨p,q,t,v⟩ s=(s1,0):=by unfold Cj;rw [if_neg (Int.not_lt.mpr HL.o),if_pos hi,aq.o]
    have R:=Hd hR;have bn:=Hd (xY hi);clear hR hi;go_wp2_with fail;go_region_held3 (fun w'=>w'.cell? ⟨E.bw,0,none⟩=some (.slice E.A E.n E.c)∧(w'.cell? ⟨w.heap.size,0,none⟩=some (Aa Ab p)∧w'.cell? ⟨w.heap.size,1,none⟩=some (Aa Ab q)∧w'.cell? ⟨w.heap.size,2,none⟩=some (Aa Ab t)∧w'.cell? ⟨w.heap.size,3,none⟩=some (Aa Ab v))) (first|with_reducible exact⟨u,z,B,C,D⟩|with_reducible exact⟨Bi u,Bi z,Bi B,Bi C,Bi D⟩) (first|(go_at_call 163;(with_reducible refine(zJ t (Fz t) _ bn.o).mono ?_);rintro e w5 ⟨rfl,F⟩;replace m:=Hd (m.o.drew.below F);replace k:=Hd (k.o.drew.pure F);replace f:=Hd (f.o.drew.pure F);clear u z B C D;clear F;have u:=(k.o).c0;have z:=Be f.o.1;have B:=Bc f.o.1;have C:=Bb f.o.1;have D:=Bf f.o.1)|(go_at_call 88;(with_reducible refine(D7 E _ _ p (p+q) (Fz t) _ k.o (by omega) bb).mono ?_);rintro e w6 ⟨rfl,hD⟩;rw [a5.o] at hD;obtain⟨g3,ae,V⟩:=hD;replace m:=Hd (m.o.trans V);replace f:=Hd (f.o.to V);replace k:=Hd ae;clear u z B C D;clear ae V;have u:=(k.o).c0;have z:=Be f.o.1;have B:=Bc f.o.1;have C:=Bb f.o.1;have D:=Bf f.o.1));go_wp2_with fail;go_ret;rw [R.o];exact⟨rfl,_,k.o,m.o⟩
   ·have a3:Bs t=false:=by simpa using hi
    refine(K7 t false _ a3).mono ?_;rintro e w4 ⟨rfl,F⟩;replace m:=Hd (m.o.below F);replace k:=Hd (k.o.pure F);replace f:=Hd (f.o.pure F);clear u z B C D;clear F;have u:=(k.o).c0;have z:=Be f.o.1;have B:=Bc f.o.1;have C:=Bb f.o.1;have D:=Bf f.o.1;have HI:=Hd hi;have ak:=a5.o;rw [Aax a3] at ak;have bp:=Hd ak;obtain⟨a,ha⟩:∃a,By E.l p q t v=a:=⟨_,rfl⟩;obtain⟨er,Y⟩:∃a,B7 E.l p q t v=a:=⟨_,rfl⟩;have HA:=Hd ha;have a0:=Hd Y;clear hi a3 ha Y ak;go_wp2_with (go_at_call 88;(with_reducible refine(D7 E _ _ p (p+q) 5 _ k.o (by omega) bb).mono ?_);rintro e w6 ⟨rfl,hD⟩;rw [bp.o] at hD;obtain⟨g3,ae,V⟩:=hD;replace m:=Hd (m.o.trans V);replace f:=Hd (f.o.to V);replace k:=Hd ae;clear u z B C D;clear ae V;have u:=(k.o).c0;have z:=Be f.o.1;have B:=Bc f.o.1;have C:=Bb f.o.1;have D:=Bf f.o.1);go_region_held3 (fun w'=>w'.cell? ⟨E.bw,0,none⟩=some (.slice E.A E.n E.c)∧(w'.cell? ⟨w.heap.size,0,none⟩=some (Aa Ab p)∧w'.cell? ⟨w.heap.size,1,none⟩=some (Aa Ab q)∧w'.cell? ⟨w.heap.size,2,none⟩=some (Aa Ab t)∧w'.cell? ⟨w.heap.size,3,none⟩=some (Aa Ab v))) (first|with_reducible exact⟨u,z,B,C,D⟩|with_reducible exact⟨Bi u,Bi z,Bi B,Bi C,Bi D⟩) (first|(go_at_call 99;(with_reducible refine(Rf E.A E.n E.c p q t v a er E.l _ k.o.drew.b (by omega) HA.o a0.o).mono ?_);rintro e w5 ⟨rfl,F⟩;replace m:=Hd (m.o.drew.below F);replace k:=Hd (k.o.drew.pure F);replace f:=Hd (f.o.drew.pure F);clear u z B C D;clear F;have u:=(k.o).c0;have z:=Be f.o.1;have B:=Bc f.o.1;have C:=Bb f.o.1;have D:=Bf f.o.1));have bh:Hw E.l ⟨p,q,t,v⟩=(a,t,v):=by unfold Hw;simp only [HA.o]
    have bk:Cj E.l (d+1) ⟨p,q,t,v⟩ s=if er≠0∨(a,t,v)∈s1.had then(s1,er) else Dv E.l (Cj E.l d) ⟨p,q,t,v⟩ (s1.see (a,t,v)):=by
     unfold Cj;rw [if_neg (Int.not_lt.mpr HL.o),if_neg HI.o,aq.o,bh,a0.o];have:s1.had=s.had:=by rw [←aq.o];exact Ga _ _ _ _
     rw [this]
    have ar:=Hd bk;clear bh bk;by_cases Y:er=0
    ·subst Y;have a6:=Hd a0.o;by_cases hm:(a,t,v)∈s1.had
     ·have hr:=ar.o;rw [if_pos (.inr hm)] at hr;have R:=Hd hr;have au:=Hd (fun(g5:E9) (W:World) (h:D9 E g5 s1 W)=>jZ E g5 s1 s1 true p q t v a W h (by omega) (decide_eq_true hm) (if_pos hm));clear hr hm;go_wp2_with fail;go_at_call 164;refine(au.o _ _ k.o).mono ?_;rintro e w7 ⟨rfl,g7,af,X⟩;replace m:=Hd (m.o.trans X);replace f:=Hd (f.o.to X);replace k:=Hd af;clear u z B C D;clear af X;have u:=(k.o).c0;have z:=Be f.o.1;have B:=Bc f.o.1;have C:=Bb f.o.1;have D:=Bf f.o.1;go_wp2_with fail;go_ret;rw [R.o];exact⟨rfl,_,k.o,m.o⟩
     ·have hr:=ar.o;rw [if_neg (by simp [hm])] at hr;have R:=Hd hr;have au:=Hd (fun(g5:E9) (W:World) (h:D9 E g5 s1 W)=>jZ E g5 s1 (s1.see (a,t,v)) false p q t v a W h (by omega) (decide_eq_false hm) (if_neg hm));clear hr hm;go_wp2_with fail;go_at_call 164;refine(au.o _ _ k.o).mono ?_;rintro e w7 ⟨rfl,g7,af,X⟩;replace m:=Hd (m.o.trans X);replace f:=Hd (f.o.to X);replace k:=Hd af;clear u z B C D;clear af X;have u:=(k.o).c0;have z:=Be f.o.1;have B:=Bc f.o.1;have C:=Bb f.o.1;have D:=Bf f.o.1;obtain⟨s2,al⟩:∃s2,s1.see (a,t,v)=s2:=⟨_,rfl⟩;have b0:s2.left.toNat<d:=by subst al;exact ay
      have cm:s2.size≤899999993:=by subst al;exact az
      have bz:s2.had.length+s2.left.toNat≤900000000:=by
       subst al;unfold Bk.see;simp only [List.length_append,List.length_cons,List.length_nil];omega
      rw [al] at k R;clear al ay az bg ar aq HL au;by_cases h4:t=4
      ·subst h4;obtain⟨y,Z⟩:∃y,Cx E.l ⟨p,q,4,v⟩ s2=y:=⟨_,rfl⟩;have j:=Pe E _ s2 p q 4 v a _ k.o (by have:=Du s2;omega) HA.o;rw [Z] at j;have i:=R.o.trans (show Dv E.l (Cj E.l d) ⟨p,q,4,v⟩ s2=Cx E.l ⟨p,q,4,v⟩ s2 from rfl);rw [Z] at i;have I:=Hd j;have G:=Hd i;clear Z j i;go_wp2_with fail;go_at_call 165;refine I.o.mono ?_;rintro e w8 ⟨rfl,g8,J,K⟩;have P:=Hd J;have T:=Hd K;clear u z B C D;clear J K I;go_wp2_with fail;go_ret;rw [G.o];exact⟨rfl,_,P.o,m.o.trans T.o⟩
      have e4:(t==4)=false:=beq_eq_false_iff_ne.mpr h4;by_cases h5:t=5
      ·subst h5;obtain⟨y,Z⟩:∃y,Cx E.l ⟨p,q,5,v⟩ s2=y:=⟨_,rfl⟩;have j:=Pe E _ s2 p q 5 v a _ k.o (by have:=Du s2;omega) HA.o;rw [Z] at j;have i:=R.o.trans (show Dv E.l (Cj E.l d) ⟨p,q,5,v⟩ s2=Cx E.l ⟨p,q,5,v⟩ s2 from rfl);rw [Z] at i;have I:=Hd j;have G:=Hd i;clear Z j i;go_wp2_with fail;go_at_call 165;refine I.o.mono ?_;rintro e w8 ⟨rfl,g8,J,K⟩;have P:=Hd J;have T:=Hd K;clear u z B C D;clear J K I;go_wp2_with fail;go_ret;rw [G.o];exact⟨rfl,_,P.o,m.o.trans T.o⟩
      have e5:(t==5)=false:=beq_eq_false_iff_ne.mpr h5;by_cases a1:t=25
      ·subst a1;obtain⟨y,Z⟩:∃y,Cx E.l ⟨p,q,25,v⟩ s2=y:=⟨_,rfl⟩;have j:=Pe E _ s2 p q 25 v a _ k.o (by have:=Du s2;omega) HA.o;rw [Z] at j;have i:=R.o.trans (show Dv E.l (Cj E.l d) ⟨p,q,25,v⟩ s2=Cx E.l ⟨p,q,25,v⟩ s2 from rfl);rw [Z] at i;have I:=Hd j;have G:=Hd i;clear Z j i;go_wp2_with fail;go_at_call 165;refine I.o.mono ?_;rintro e w8 ⟨rfl,g8,J,K⟩;have P:=Hd J;have T:=Hd K;clear u z B C D;clear J K I;go_wp2_with fail;go_ret;rw [G.o];exact⟨rfl,_,P.o,m.o.trans T.o⟩
      have cf:(t==25)=false:=beq_eq_false_iff_ne.mpr a1;by_cases h6:t=6
      ·subst h6;obtain⟨n0,ai⟩:∃x,G3 E.l p q 6 v=x:=⟨_,rfl⟩;obtain⟨ef,ah⟩:∃x,F7 E.l p q 6 v=x:=⟨_,rfl⟩;obtain⟨pa,aj⟩:∃x,F6 E.l p q 6 v=x:=⟨_,rfl⟩;have Q:=Hd ai;have H:=Hd ah;have M:=Hd aj;have i:=R.o.trans (show Dv E.l (Cj E.l d) ⟨p,q,6,v⟩ s2=C8 E.l ⟨p,q,6,v⟩ s2 from rfl);have G:=Hd i;have O:=Iv a6.o;rw [HA.o] at O;have bv:=O.1;have bx:a≤4294967296:=by have:=O.2;omega
       clear ai ah aj i O;go_wp2_with fail;go_region_held3 (fun w'=>w'.cell? ⟨E.bw,0,none⟩=some (.slice E.A E.n E.c)∧(w'.cell? ⟨w.heap.size,0,none⟩=some (Aa Ab p)∧w'.cell? ⟨w.heap.size,1,none⟩=some (Aa Ab q)∧w'.cell? ⟨w.heap.size,2,none⟩=some (Aa Ab 6)∧w'.cell? ⟨w.heap.size,3,none⟩=some (Aa Ab v))) (first|with_reducible exact⟨u,z,B,C,D⟩|with_reducible exact⟨Bi u,Bi z,Bi B,Bi C,Bi D⟩) (first|(go_at_call 166;(with_reducible refine(M5 E.A E.n E.c p q 6 v pa n0 ef E.l _ k.o.drew.b (by omega) M.o Q.o H.o).mono ?_);rintro e w9 ⟨rfl,F⟩;replace m:=Hd (m.o.drew.below F);replace k:=Hd (k.o.drew.pure F);replace f:=Hd (f.o.drew.pure F);clear u z B C D;clear F;have u:=(k.o).c0;have z:=Be f.o.1;have B:=Bc f.o.1;have C:=Bb f.o.1;have D:=Bf f.o.1));by_cases N:ef=0
       ·subst N;have r:=Qd H.o;have an:=jT H.o (show Bs 6=false by decide);rw [M.o,HA.o] at an;subst an;rw [M.o,Q.o] at r;have bd:=r.2.2;have be:n0≤4294967296:=by have:=r.2.1;omega
        have b6:IntKind.i64.wrap (pa+n0)=pa+n0:=Ag _ (by omega);have L:C8 E.l ⟨p,q,6,v⟩ s2=(s2.tell pa (pa+n0) 12,0):=by
         unfold C8;simp only [H.o,M.o,Q.o,if_true]
         (try rfl)
        have S:=Hd L;clear r L;go_wp2_with (go_at_call 88;(with_reducible refine(D7 E _ _ pa (pa+n0) 12 _ k.o (by omega) (by have:=Du s2;omega)).mono ?_);rintro e w2 ⟨rfl,g2,ad,U⟩;replace m:=Hd (m.o.trans U);replace f:=Hd (f.o.to U);replace k:=Hd ad;clear u z B C D;clear ad U;have u:=(k.o).c0;have z:=Be f.o.1;have B:=Bc f.o.1;have C:=Bb f.o.1;have D:=Bf f.o.1);go_ret;rw [G.o,S.o];exact⟨rfl,_,k.o,m.o⟩
       ·have bf:(ef != 0)=true:=by simpa using N
        have L:C8 E.l ⟨p,q,6,v⟩ s2=(s2,ef):=by
         unfold C8;simp only [H.o];rw [if_neg N]
        have S:=Hd L;clear L N;go_wp2_with fail;go_ret;rw [G.o,S.o];exact⟨rfl,_,k.o,m.o⟩
      have e6:(t==6)=false:=beq_eq_false_iff_ne.mpr h6;by_cases h7:t=7
      ·subst h7;obtain⟨n0,ai⟩:∃x,G3 E.l p q 7 v=x:=⟨_,rfl⟩;obtain⟨ef,ah⟩:∃x,F7 E.l p q 7 v=x:=⟨_,rfl⟩;obtain⟨pa,aj⟩:∃x,F6 E.l p q 7 v=x:=⟨_,rfl⟩;have Q:=Hd ai;have H:=Hd ah;have M:=Hd aj;have i:=R.o.trans (show Dv E.l (Cj E.l d) ⟨p,q,7,v⟩ s2=C8 E.l ⟨p,q,7,v⟩ s2 from rfl);have G:=Hd i;have O:=Iv a6.o;rw [HA.o] at O;have bv:=O.1;have bx:a≤4294967296:=by have:=O.2;omega
       clear ai ah aj i O;go_wp2_with fail;go_region_held3 (fun w'=>w'.cell? ⟨E.bw,0,none⟩=some (.slice E.A E.n E.c)∧(w'.cell? ⟨w.heap.size,0,none⟩=some (Aa Ab p)∧w'.cell? ⟨w.heap.size,1,none⟩=some (Aa Ab q)∧w'.cell? ⟨w.heap.size,2,none⟩=some (Aa Ab 7)∧w'.cell? ⟨w.heap.size,3,none⟩=some (Aa Ab v))) (first|with_reducible exact⟨u,z,B,C,D⟩|with_reducible exact⟨Bi u,Bi z,Bi B,Bi C,Bi D⟩) (first|(go_at_call 166;(with_reducible refine(M5 E.A E.n E.c p q 7 v pa n0 ef E.l _ k.o.drew.b (by omega) M.o Q.o H.o).mono ?_);rintro e w9 ⟨rfl,F⟩;replace m:=Hd (m.o.drew.below F);replace k:=Hd (k.o.drew.pure F);replace f:=Hd (f.o.drew.pure F);clear u z B C D;clear F;have u:=(k.o).c0;have z:=Be f.o.1;have B:=Bc f.o.1;have C:=Bb f.o.1;have D:=Bf f.o.1));by_cases N:ef=0
       ·subst N;have r:=Qd H.o;have an:=jT H.o (show Bs 7=false by decide);rw [M.o,HA.o] at an;subst an;rw [M.o,Q.o] at r;have bd:=r.2.2;have be:n0≤4294967296:=by have:=r.2.1;omega
        have b6:IntKind.i64.wrap (pa+n0)=pa+n0:=Ag _ (by omega);have L:C8 E.l ⟨p,q,7,v⟩ s2=(s2.tell pa (pa+n0) 13,0):=by
         unfold C8;simp only [H.o,M.o,Q.o,if_true]
         (try rfl)
        have S:=Hd L;clear r L;go_wp2_with (go_at_call 88;(with_reducible refine(D7 E _ _ pa (pa+n0) 13 _ k.o (by omega) (by have:=Du s2;omega)).mono ?_);rintro e w2 ⟨rfl,g2,ad,U⟩;replace m:=Hd (m.o.trans U);replace f:=Hd (f.o.to U);replace k:=Hd ad;clear u z B C D;clear ad U;have u:=(k.o).c0;have z:=Be f.o.1;have B:=Bc f.o.1;have C:=Bb f.o.1;have D:=Bf f.o.1);go_ret;rw [G.o,S.o];exact⟨rfl,_,k.o,m.o⟩
       ·have bf:(ef != 0)=true:=by simpa using N
        have L:C8 E.l ⟨p,q,7,v⟩ s2=(s2,ef):=by
         unfold C8;simp only [H.o];rw [if_neg N]
        have S:=Hd L;clear L N;go_wp2_with fail;go_ret;rw [G.o,S.o];exact⟨rfl,_,k.o,m.o⟩
      have e7:(t==7)=false:=beq_eq_false_iff_ne.mpr h7;have ag:Dv E.l (Cj E.l d) ⟨p,q,t,v⟩ s2=Dw E.l (Cj E.l d) ⟨p,q,t,v⟩ s2:=by
       unfold Dv;rw [if_neg (by simp [Ll];omega),if_neg (by simp only;omega)]
      have bl:=Hd ag;clear ag h4 h5 a1 h6 h7;obtain⟨y,Z⟩:∃y,Dw E.l (Cj E.l d) ⟨p,q,t,v⟩ s2=y:=⟨_,rfl⟩;have j:=iM E _ d bm.o (Ol E.l d) (jA E.l d) _ s2 p q t v a _ k.o b0 (by omega) bz HA.o;rw [Z] at j;have i:=R.o.trans (show Dv E.l (Cj E.l d) ⟨p,q,t,v⟩ s2=Dw E.l (Cj E.l d) ⟨p,q,t,v⟩ s2 from bl.o);rw [Z] at i;have I:=Hd j;have G:=Hd i;clear Z j i;go_wp2_with fail;go_at_call 167;refine I.o.mono ?_;rintro e w8 ⟨rfl,g8,J,K⟩;have P:=Hd J;have T:=Hd K;clear u z B C D;clear J K I;go_wp2_with fail;go_ret;rw [G.o];exact⟨rfl,_,P.o,m.o.trans T.o⟩
    ·have bf:(er != 0)=true:=by simpa using Y
     have hr:=ar.o;rw [if_pos (.inl Y)] at hr;have R:=Hd hr;clear hr Y;go_wp2_with fail;go_ret;rw [R.o];exact⟨rfl,_,k.o,m.o⟩
theorem tZ{u:Nat}(hf:Bt f=true)(hu:u<18446744073709551616):Cf f.toNat u=decide (Fq u≤f):=by
 unfold Cf Fq;rcases Bz.1 hf with rfl|rfl|rfl|rfl
 ·simp only [Int.reduceToNat,Nat.reduceMul,Nat.reducePow];refine decide_eq_decide.2 ?_
  (repeat' split) <;>omega
 ·simp only [Int.reduceToNat,Nat.reduceMul,Nat.reducePow];refine decide_eq_decide.2 ?_
  (repeat' split) <;>omega
 ·simp only [Int.reduceToNat,Nat.reduceMul,Nat.reducePow];refine decide_eq_decide.2 ?_
  (repeat' split) <;>omega
 ·simp only [Int.reduceToNat,Nat.reduceMul,Nat.reducePow];refine decide_eq_decide.2 ?_
  (repeat' split) <;>omega
theorem tY{n:Int}(hf:Bt f=true)(hn: -9223372036854775808≤n∧n≤9223372036854775807):D2 f.toNat n=decide (Ml n≤f):=by
 unfold D2 Ml;rcases Bz.1 hf with rfl|rfl|rfl|rfl
 ·simp only [Int.reduceToNat,Nat.reduceMul,Nat.reduceSub,Int.reducePow,Int.reduceNeg];refine decide_eq_decide.2 ?_
  (repeat' split) <;>omega
 ·simp only [Int.reduceToNat,Nat.reduceMul,Nat.reduceSub,Int.reducePow,Int.reduceNeg];refine decide_eq_decide.2 ?_
  (repeat' split) <;>omega
 ·simp only [Int.reduceToNat,Nat.reduceMul,Nat.reduceSub,Int.reducePow,Int.reduceNeg];refine decide_eq_decide.2 ?_
  (repeat' split) <;>omega
 ·simp only [Int.reduceToNat,Nat.reduceMul,Nat.reduceSub,Int.reducePow,Int.reduceNeg];refine decide_eq_decide.2 ?_
  (repeat' split) <;>omega
theorem Lo(f:Int)(u:Nat)(r:Bool)(w:World)(hf:Bt f=true)(hu:(u:Int)<18446744073709551616)(hr:decide (Fq u≤f)=r):Calls Ad 100 #[Aa Ab f,Aa Ac u] w (Adh (.bool r) w):=by
 have hW:=Bz.1 hf;have e:=tZ hf (u:=u) (by omega);obtain⟨F,rfl⟩:=Int.eq_ofNat_of_zero_le (a:=f) (by omega);rw [Ao] at e;rw [←hr,←e];exact(nG F u w hf hu).mono fun e w' ⟨h1,h2⟩=>⟨h1,h2▸Af _ _⟩
theorem aE(f n:Int)(r:Bool)(w:World)(hf:Bt f=true)(hn: -9223372036854775808≤n∧n≤9223372036854775807)(hr:decide (Ml n≤f)=r):Calls Ad 178 #[Aa Ab f,Aa Ab n] w (Adh (.bool r) w):=by
 have hW:=Bz.1 hf;have e:=tY hf hn;obtain⟨F,rfl⟩:=Int.eq_ofNat_of_zero_le (a:=f) (by omega);rw [Ao] at e;rw [←hr,←e];exact(iH F n w hf).mono fun e w' ⟨h1,h2⟩=>⟨h1,h2▸Af _ _⟩
theorem O1(A:Option Addr)(n c:Nat)(a x u:Int)(l:List UInt8)(w:World)(hl:Ca w A n l)(hn:n≤9223372036854775807)(hu:Ht l a x=u):
  Calls Ad 177 #[.slice A n c,Aa Ab a,Aa Ab x] w (Adh (.tuple #[Aa Ab u,Aa Ab (Cl n a x)]) w):=by
 subst hu;exact iJ A n c a x l w hl hn
theorem Ra(A:Option Addr)(n c:Nat)(a x:Int)(u:Nat)(l:List UInt8)(w:World)(hl:Ca w A n l)(hn:n≤9223372036854775807)(hu:loadU l a x=u):
  Calls Ad 176 #[.slice A n c,Aa Ab a,Aa Ab x] w (Adh (.tuple #[Aa Ac u,Aa Ab (Cl n a x)]) w):=by
 subst hu;exact Hk A n c a x l w hl hn
theorem rT(A:Option Addr)(n c:Nat)(p q t v f:Int)(r:Bool)(l:List UInt8)(w:World)(h:Ca w A n l)(hn:n≤1099511627776)(hf:Bt f=true)(hi:Bs t=true)(hr:Cy l p q t v 0 f=r):
  Calls Ad 98 #[.slice A n c,.agg (Adl p q t v),Aa Ab f] w (Adh (.bool r) w):=by
 unfold Cy at hr;have y:=U8 l p q;have D:=U9 l p q;obtain⟨E,B⟩:∃x,Ht l p q=x:=⟨_,rfl⟩;obtain⟨u,H⟩:∃x,loadU l p q=x:=⟨_,rfl⟩;unfold jN jM at hr;rw [B] at hr y;rw [H] at hr D;have z:=Hd B;have G:=Hd H;have I:=Hd hf;have s:n≤9223372036854775807:=by omega
 clear B H hf;by_cases h1:t=1
 ·subst h1;rw [if_pos rfl] at hr;have F:=Hd hr;clear hr hi;have d:=Hd (h.alloc (.cells (Adl p q 1 v) 70));have b:=Hd (Bh.new w 70 (Adl p q 1 v));have g:=Hd ((Af w.heap.size w).alloc (Ae _) (.cells (Adl p q 1 v) 70));clear h;obtain ⟨i,j,k,m⟩:=b.o.c4;go_enter func98,ntmps98;go_wp2_with fail;go_at_call 176;refine(Ra A n c p q u l _ d.o s G.o).mono ?_;rintro e C ⟨rfl,a⟩;replace g:=Hd (Ba g.o a);replace d:=Hd (d.o.pure a);replace b:=Hd (b.o.pure a);clear i j k m a;obtain ⟨i,j,k,m⟩:=b.o.c4;go_wp2_with fail;go_at_call 177;refine(O1 A n c p q E l _ d.o s z.o).mono ?_;rintro e C ⟨rfl,a⟩;replace g:=Hd (Ba g.o a);replace d:=Hd (d.o.pure a);replace b:=Hd (b.o.pure a);clear i j k m a;obtain ⟨i,j,k,m⟩:=b.o.c4;go_wp2_with fail;go_at_call 178;refine(aE f E r _ I.o y F.o).mono ?_;rintro e C ⟨rfl,a⟩;replace g:=Hd (Ba g.o a);replace d:=Hd (d.o.pure a);replace b:=Hd (b.o.pure a);clear i j k m a;obtain ⟨i,j,k,m⟩:=b.o.c4;go_wp2;go_ret;exact⟨rfl,g.o⟩
 rw [if_neg h1] at hr;have J:(t==1)=false:=beq_eq_false_iff_ne.mpr h1;by_cases h2:t=2
 ·subst h2;rw [if_pos rfl] at hr;have F:=Hd hr;clear hr h1 hi J;have d:=Hd (h.alloc (.cells (Adl p q 2 v) 70));have b:=Hd (Bh.new w 70 (Adl p q 2 v));have g:=Hd ((Af w.heap.size w).alloc (Ae _) (.cells (Adl p q 2 v) 70));clear h;obtain ⟨i,j,k,m⟩:=b.o.c4;go_enter func98,ntmps98;go_wp2_with fail;go_at_call 176;refine(Ra A n c p q u l _ d.o s G.o).mono ?_;rintro e C ⟨rfl,a⟩;replace g:=Hd (Ba g.o a);replace d:=Hd (d.o.pure a);replace b:=Hd (b.o.pure a);clear i j k m a;obtain ⟨i,j,k,m⟩:=b.o.c4;go_wp2_with fail;go_at_call 177;refine(O1 A n c p q E l _ d.o s z.o).mono ?_;rintro e C ⟨rfl,a⟩;replace g:=Hd (Ba g.o a);replace d:=Hd (d.o.pure a);replace b:=Hd (b.o.pure a);clear i j k m a;obtain ⟨i,j,k,m⟩:=b.o.c4;go_wp2_with fail;go_at_call 100;refine(Lo f u r _ I.o (by omega) F.o).mono ?_;rintro e C ⟨rfl,a⟩;replace g:=Hd (Ba g.o a);replace d:=Hd (d.o.pure a);replace b:=Hd (b.o.pure a);clear i j k m a;obtain ⟨i,j,k,m⟩:=b.o.c4;go_wp2;go_ret;exact⟨rfl,g.o⟩
 rw [if_neg h2,if_pos hi] at hr;subst hr;have K:(t==2)=false:=beq_eq_false_iff_ne.mpr h2;clear h1 h2 hi;have d:=Hd (h.alloc (.cells (Adl p q t v) 70));have b:=Hd (Bh.new w 70 (Adl p q t v));have g:=Hd ((Af w.heap.size w).alloc (Ae _) (.cells (Adl p q t v) 70));clear h;obtain ⟨i,j,k,m⟩:=b.o.c4;go_enter func98,ntmps98;go_wp2_with fail;go_at_call 176;refine(Ra A n c p q u l _ d.o s G.o).mono ?_;rintro e C ⟨rfl,a⟩;replace g:=Hd (Ba g.o a);replace d:=Hd (d.o.pure a);replace b:=Hd (b.o.pure a);clear i j k m a;obtain ⟨i,j,k,m⟩:=b.o.c4;go_wp2_with fail;go_at_call 177;refine(O1 A n c p q E l _ d.o s z.o).mono ?_;rintro e C ⟨rfl,a⟩;replace g:=Hd (Ba g.o a);replace d:=Hd (d.o.pure a);replace b:=Hd (b.o.pure a);clear i j k m a;obtain ⟨i,j,k,m⟩:=b.o.c4;go_wp2;go_ret;exact⟨rfl,g.o⟩
theorem nK{pos:Int}(hi:Bs t=true):Cy l p q t v pos f=Cy l p q t v 0 f:=by
 unfold Cy;rw [if_pos hi,if_pos hi]
theorem Re(A:Option Addr)(n c:Nat)(p q t v pos f:Int)(r:Bool)(l:List UInt8)(w:World)(h:Ca w A n l)(hn:n≤1099511627776)(hp:pos≤1099511627776)(hf:Bt f=true)(hr:Cy l p q t v pos f=r):
  Calls Ad 63 #[.slice A n c,.agg (Adl p q t v),Aa Ab pos,Aa Ab f] w (Adh (.bool r) w):=by
 have I:=Hd hf;obtain⟨i,B⟩:∃i,Bs t=i:=⟨_,rfl⟩;have y:=Hd B;clear hf;cases i with
 |true=>
  rw [nK B] at hr;have F:=Hd hr;clear hr B;have j:=Hd (h.alloc (.cells (Adl p q t v) 70));have d:=Hd (Bh.new w 70 (Adl p q t v));have g:=Hd ((Af w.heap.size w).alloc (Ae _) (.cells (Adl p q t v) 70));clear h;obtain ⟨k,m,s,x⟩:=d.o.c4;go_enter func63,ntmps63;go_wp2_with fail;go_at_call 97;refine(K7 t true _ y.o).mono ?_;rintro e E ⟨rfl,b⟩;replace g:=Hd (Ba g.o b);replace j:=Hd (j.o.pure b);replace d:=Hd (d.o.pure b);clear k m s x b;obtain ⟨k,m,s,x⟩:=d.o.c4;go_wp2_with fail;go_at_call 98;refine(rT A n c p q t v f r l _ j.o hn I.o y.o F.o).mono ?_;rintro e E ⟨rfl,b⟩;replace g:=Hd (Ba g.o b);replace j:=Hd (j.o.pure b);replace d:=Hd (d.o.pure b);clear k m s x b;obtain ⟨k,m,s,x⟩:=d.o.c4;go_wp2;go_ret;exact⟨rfl,g.o⟩
 |false=>
  have C:=X3 l p q t v;have J:=h.1;unfold Cy at hr;have h1:t≠1:=by rintro rfl;exact absurd B (by decide)
  have h2:t≠2:=by rintro rfl;exact absurd B (by decide)
  rw [if_neg h1,if_neg h2,if_neg (by rw [B];decide)] at hr;obtain⟨a,G⟩:∃a,By l p q t v=a:=⟨_,rfl⟩;rw [G] at hr C;have K:=Hd G;obtain⟨L,M⟩:=C;clear G B h1 h2;have j:=Hd (h.alloc (.cells (Adl p q t v) 70));have d:=Hd (Bh.new w 70 (Adl p q t v));have g:=Hd ((Af w.heap.size w).alloc (Ae _) (.cells (Adl p q t v) 70));clear h;obtain ⟨k,m,s,x⟩:=d.o.c4;go_enter func63,ntmps63;go_wp2_with fail;go_at_call 97;refine(K7 t false _ y.o).mono ?_;rintro e E ⟨rfl,b⟩;replace g:=Hd (Ba g.o b);replace j:=Hd (j.o.pure b);replace d:=Hd (d.o.pure b);clear k m s x b;obtain ⟨k,m,s,x⟩:=d.o.c4;go_wp2_with fail;go_at_call 99;refine(Rf A n c p q t v a _ l _ j.o hn K.o rfl).mono ?_;rintro e E ⟨rfl,b⟩;replace g:=Hd (Ba g.o b);replace j:=Hd (j.o.pure b);replace d:=Hd (d.o.pure b);clear k m s x b;obtain ⟨k,m,s,x⟩:=d.o.c4;by_cases z:a≤pos
  ·obtain⟨u,D⟩:∃u:Nat,pos-a=u:=⟨(pos-a).toNat,by omega⟩;rw [decide_eq_true z,Bool.true_and,D,Ao] at hr;have N:IntKind.i64.wrap (pos-a)=u:=by rw [D];exact Ag _ (by omega)
   have O:IntKind.u64.wrap (u:Int)=u:=by rw [IntKind.wrap_u64];omega
   have F:=Hd hr;have P:=Hd D;have H:(u:Int)<18446744073709551616:=by omega
   clear hr D;go_wp2_with fail;go_at_call 100;refine(Lo f u r _ I.o H F.o).mono ?_;rintro e E ⟨rfl,b⟩;replace g:=Hd (Ba g.o b);replace j:=Hd (j.o.pure b);replace d:=Hd (d.o.pure b);clear k m s x b;obtain ⟨k,m,s,x⟩:=d.o.c4;go_wp2;go_ret;exact⟨rfl,g.o⟩
  ·rw [decide_eq_false z,Bool.false_and] at hr;subst hr;have Q:decide (a≤pos)=false:=decide_eq_false z;go_wp2;go_ret;exact⟨rfl,g.o⟩
def Mh(l:List UInt8)(r:Rq)(f:Int)(i:Nat):Bool:=Cy l (Cq l r i).p (Cq l r i).q (Cq l r i).t (Cq l r i).v (lsFrom l r.p r.q r.t r.v+(aheadT r.t:Int)*f+i*f) f
def S1(l:List UInt8)(r:Rq)(f:Int):Bool:=
 if 0<aheadT r.t∧f<Fq (lsLen l r.p r.q r.t r.v) then false
 else if r.t=9∧Cy l (Ck l r).p (Ck l r).q (Ck l r).t (Ck l r).v (lsFrom l r.p r.q r.t r.v) f=false then false
 else(List.range (lsLen l r.p r.q r.t r.v)).all (Mh l r f)
theorem tE{r:Rq}(hl:Cm l r.p r.q r.t r.v=0):Jo l r=aheadT r.t:=by
 obtain⟨_,_,h3,_,b,_⟩:=dZ hl;have c:=Bz.1 (yO h3).2.2.2.2.2.2;unfold Jo lsAt lsFrom;rw [if_pos hl,if_pos hl];have:((By l r.p r.q r.t r.v).toNat:Int)-(((By l r.p r.q r.t r.v).toNat-aheadT r.t*r.v.toNat:Nat):Int)=(aheadT r.t:Int)*r.v:=by
  have a:((aheadT r.t*r.v.toNat:Nat):Int)=(aheadT r.t:Int)*r.v:=by rw [Int.natCast_mul,Int.toNat_of_nonneg (by omega)]
  rw [←a];omega
 rw [this];exact Int.mul_ediv_cancel _ (by omega)
theorem gA:aheadT t=3↔t=9:=by
 unfold aheadT;constructor
 ·intro h;split at h
  ·assumption
  ·split at h <;>omega
 ·intro h;rw [if_pos h]
theorem zK(l:List UInt8)(r:Rq)(hf:1≤f):S1 l r f=K3 l r f:=by
 by_cases a:Cm l r.p r.q r.t r.v=0
 ·have e:=tE a;unfold S1 K3;rw [e];have h3:((aheadT r.t:Nat):Int)=3↔r.t=9:=by
   rw [←gA];omega
  have b:Mh l r f=N2 l r f:=by
   funext i
   unfold Mh N2;rw [e,Int.add_mul,Int.add_assoc]
  rw [b];by_cases h1:0<aheadT r.t∧f<Fq (lsLen l r.p r.q r.t r.v)
  ·rw [if_pos h1,if_pos (show 0<((aheadT r.t:Nat):Int)∧f<Fq (lsLen l r.p r.q r.t r.v) from⟨by omega,h1.2⟩)]
  rw [if_neg h1,if_neg (show ¬(0<((aheadT r.t:Nat):Int)∧f<Fq (lsLen l r.p r.q r.t r.v)) from fun h=>h1 ⟨by omega,h.2⟩)];by_cases h2:r.t=9∧Cy l (Ck l r).p (Ck l r).q (Ck l r).t (Ck l r).v (lsFrom l r.p r.q r.t r.v) f=false
  ·rw [if_pos h2,if_pos (show((aheadT r.t:Nat):Int)=3∧Cy l (Ck l r).p (Ck l r).q (Ck l r).t (Ck l r).v (lsFrom l r.p r.q r.t r.v) f=false from⟨h3.2 h2.1,h2.2⟩)]
  rw [if_neg h2,if_neg (show ¬(((aheadT r.t:Nat):Int)=3∧Cy l (Ck l r).p (Ck l r).q (Ck l r).t (Ck l r).v (lsFrom l r.p r.q r.t r.v) f=false) from fun h=>h2 ⟨h3.1 h.1,h.2⟩)]
 ·have c:lsLen l r.p r.q r.t r.v=0:=if_neg a;have d:Jo l r=0:=by
   unfold Jo lsAt lsFrom;rw [if_neg a,if_neg a];simp
  have g:Hf l r.p r.q r.t r.v≠0:=by
   intro h;unfold Hf at h;split at h
   ·contradiction
   split at h
   ·cases h
   ·exact a h
  have k:Fq 0=1:=rfl;have j:Cy l (Ck l r).p (Ck l r).q (Ck l r).t (Ck l r).v (lsFrom l r.p r.q r.t r.v) f=true:=by
   have:(Ck l r).t=0:=by
    unfold Ck Ps;simp only;rw [if_neg g]
   unfold Cy;rw [this];rfl
  unfold S1 K3;rw [c,d,j,k,if_neg (by omega),if_neg (by simp),if_neg (by omega),if_neg (by omega)];rfl
theorem tF(t:Int):aheadT t≤3:=by
 unfold aheadT
 (repeat' split) <;>omega
theorem xV(l:List UInt8)(p q t v:Int):lsFrom l p q t v≤l.length:=by
 unfold lsFrom;split
 ·rename_i h;have h3:=(dZ h).2.2.1;have:=Iv h3;omega
 ·exact Nat.zero_le _
theorem nH(A:Option Addr)(n c:Nat)(p q t v f:Int)(r:Bool)(l:List UInt8)(w:World)(h:Ca w A n l)(hn:n≤4294967296)(hf:Bt f=true)(hr:S1 l ⟨p,q,t,v⟩ f=r):
  Calls Ad 181 #[.slice A n c,.agg (Adl p q t v),Aa Ab f] w (Adh (.bool r) w):=by
 have ab:=h.1;have b4:=Sk hf;have HF:=Hd hf;have s:=Hd (h.alloc (.cells (Adl p q t v) 70));have j:=Hd (Bh.new w 70 (Adl p q t v));have m:=Hd ((Af w.heap.size w).alloc (Ae _) (.cells (Adl p q t v) 70));have ax:=xV l p q t v;have a9:=Qw l p q t v;obtain⟨fr,al⟩:∃x:Int,(lsFrom l p q t v:Int)=x:=⟨_,rfl⟩;obtain⟨a,ha⟩:∃x:Int,(lsAt l p q t v:Int)=x:=⟨_,rfl⟩;obtain⟨o,ho⟩:∃x:Int,(lsTo l p q t v:Int)=x:=⟨_,rfl⟩;obtain⟨N,hN⟩:∃N:Nat,lsLen l p q t v=N:=⟨_,rfl⟩;obtain⟨er,he⟩:∃x,Cm l p q t v=x:=⟨_,rfl⟩;obtain⟨ah,X⟩:∃x,aheadT t=x:=⟨_,rfl⟩;have av:=tF t;rw [X] at av;have bq:0≤fr:=by omega
 have br:fr≤4294967296:=by omega
 have b3:N≤4294967296:=by omega
 have I:n≤1099511627776:=by omega
 have au:=Hd al;have HA:=Hd ha;have HO:=Hd ho;have HN:=Hd hN;have a5:=Hd (show(lsLen l p q t v:Int)=(N:Int) by rw [hN]);have aq:=Hd he;have ap:=Hd X;obtain⟨b1,ak⟩:∃b,decide (0<ah∧f<Fq N)=b:=⟨_,rfl⟩;have az:(if b1=true then false else if t=9∧Cy l (Ck l ⟨p,q,t,v⟩).p (Ck l ⟨p,q,t,v⟩).q (Ck l ⟨p,q,t,v⟩).t (Ck l ⟨p,q,t,v⟩).v fr f=false then false else(List.range N).all (Mh l ⟨p,q,t,v⟩ f))=r:=by
  rw [←hr,←ak];unfold S1;simp only [X,hN,al,decide_eq_true_eq]
 have G:=Hd az;have ad:=Hd ak;have bz:=Hd ab;clear h hf hr az ak ax a9 al ha ho hN he X ab;obtain ⟨z,B,C,D⟩:=j.o.c4;go_enter func181,ntmps181;go_wp2_with fail;go_at_call 182;refine(aG A n c p q t v fr a o er l _ s.o I au.o HA.o HO.o aq.o).mono ?_;rintro e F ⟨rfl,d⟩;replace m:=Hd (Ba m.o d);replace s:=Hd (s.o.pure d);replace j:=Hd (j.o.pure d);clear z B C D d;obtain ⟨z,B,C,D⟩:=j.o.c4;go_wp2_with fail;go_at_call 103;refine(Y1 A n c p q t v N er l _ s.o I a5.o aq.o).mono ?_;rintro e F ⟨rfl,d⟩;replace m:=Hd (Ba m.o d);replace s:=Hd (s.o.pure d);replace j:=Hd (j.o.pure d);clear z B C D d;obtain ⟨z,B,C,D⟩:=j.o.c4;go_wp2_with fail;go_at_call 274;refine(Uq t ah _ ap.o).mono ?_;rintro e w3 ⟨rfl,rfl⟩;go_upto_region 4 with fail
 go_cut [44] from 19 to 85 (fun u44 wx=>∃wy,wy=wx∧u44= .bool b1∧Below F.heap.size F wx)
 case first=>
  by_cases h0:0<ah
  ·have t0:decide (0<ah)=true:=decide_eq_true h0;have bd:IntKind.u64.wrap (N:Int)=N:=by rw [IntKind.wrap_u64];omega
   have ay:decide (Fq N≤f)=!b1:=by
    rw [←ad.o];by_cases g:f<Fq N
    ·rw [decide_eq_true (show 0<ah∧f<Fq N from⟨h0,g⟩),decide_eq_false (by omega)];rfl
    ·rw [decide_eq_false (show ¬(0<ah∧f<Fq N) from fun h=>g h.2),decide_eq_true (by omega)];rfl
   have a4:=Hd ay;have HQ:=Hd (Af F.heap.size F);clear ay m;go_wp2_with fail;go_at_call 100;refine(Lo f N (!b1) _ HF.o (by omega) a4.o).mono ?_;rintro e w4 ⟨rfl,d⟩;replace HQ:=Hd d;clear d;go_wp2_with fail;go_meet;exact⟨_,rfl,by simp,HQ.o⟩
  ·have t0:decide (0<ah)=false:=decide_eq_false h0;have d:b1=false:=by
    rw [←ad.o];exact decide_eq_false fun h=>h0 h.1
   subst d;go_wp2_with fail;go_meet;exact⟨_,rfl,rfl,Af _ _⟩
 case rest=>
 obtain⟨w4,rfl,rfl,d⟩:=hcut;replace m:=Hd (Ba m.o d);replace s:=Hd (s.o.pure d);replace j:=Hd (j.o.pure d);clear z B C D d;obtain ⟨z,B,C,D⟩:=j.o.c4;cases b1 with
 |true=>
  have hr:=G.o;rw [if_pos rfl] at hr;subst hr;go_wp2_with fail;go_ret;exact⟨rfl,m.o⟩
 |false=>
  have hr:=G.o;rw [if_neg (by decide)] at hr;replace G:=Hd hr;clear hr ad;go_upto_if 47 with fail
  go_cut [14,15] from 19 to 85 (fun _ _ wx=>∃wy,wy=wx∧(List.range N).all (Mh l ⟨p,q,t,v⟩ f)=r∧Below w4.heap.size w4 wx)
  case first=>
   by_cases h9:t=9
   ·have e9:(t==9)=true:=beq_iff_eq.2 h9;have H9:=Hd h9;clear h9;obtain⟨⟨J,K,L,M⟩,T⟩:∃k,Ck l ⟨p,q,t,v⟩=k:=⟨_,rfl⟩;have hr:=G.o;rw [T] at hr;simp only at hr;have hk:=T;unfold Ck at hk;simp only [Rq.mk.injEq] at hk;obtain⟨O,P,Q,R⟩:=hk;obtain⟨ke,S⟩:∃a,Hf l p q t v=a:=⟨_,rfl⟩;obtain⟨st,H⟩:∃b,Cy l J K L M fr f=b:=⟨_,rfl⟩;rw [H] at hr;have HP:=Hd O;have ag:=Hd P;have HT:=Hd Q;have HV:=Hd R;have ae:=Hd S;have ai:=Hd H;replace G:=Hd hr;have U:=m;replace m:=Hd (Af w4.heap.size w4);clear hr O P Q R S H T;go_wp2_with fail;go_at_call 102;refine(Mg A n c p q t v J K L M ke l _ s.o I HP.o ag.o HT.o HV.o ae.o).mono ?_;rintro e F ⟨rfl,d⟩;replace m:=Hd (Ba m.o d);replace s:=Hd (s.o.pure d);replace j:=Hd (j.o.pure d);clear z B C D d;obtain ⟨z,B,C,D⟩:=j.o.c4;go_upto_region 8 with fail
    have E:Below F.heap.size F (F.alloc (.cells (Adl J K L M) 70)):=(Af _ _).alloc (Ae _) _;have V:=Hd (Bh.new F 70 (Adl J K L M));replace m:=Hd (Ba m.o E);replace s:=Hd (s.o.pure E);replace j:=Hd (j.o.pure E);clear z B C D E;generalize F.alloc (.cells (Adl J K L M) 70)=wm at m s j V⊢;generalize F.heap.size=bk at V⊢;obtain ⟨z,B,C,D⟩:=j.o.c4;obtain ⟨k0,k1,k2,k3⟩:=V.o.c4;go_wp2_with fail;go_at_call 63;refine(Re A n c J K L M fr f st l _ s.o I (by omega) HF.o ai.o).mono ?_;rintro e w6 ⟨rfl,d⟩;replace m:=Hd (Ba m.o d);replace s:=Hd (s.o.pure d);replace j:=Hd (j.o.pure d);clear z B C D d;obtain ⟨z,B,C,D⟩:=j.o.c4;clear k0 k1 k2 k3 V;cases st with
    |true=>
     have hr:=G.o;rw [if_neg (by simp)] at hr;replace G:=Hd hr;clear hr;go_wp2_with fail;go_meet;exact⟨_,rfl,G.o,m.o⟩
    |false=>
     have hr:=G.o;rw [if_pos ⟨H9.o,rfl⟩] at hr;subst hr;go_wp2_with fail;go_ret;exact⟨rfl,Ba U.o m.o⟩
   ·have e9:(t==9)=false:=beq_eq_false_iff_ne.mpr h9;have hr:=G.o;rw [if_neg (fun h=>h9 h.1)] at hr;have G:=Hd hr;clear hr h9;go_wp2_with fail;go_meet;exact⟨_,rfl,G.o,Af _ _⟩
  case rest=>
  obtain⟨w5,rfl,hr,d⟩:=hcut;replace m:=Hd (Ba m.o d);replace s:=Hd (s.o.pure d);replace j:=Hd (j.o.pure d);clear z B C D d;obtain ⟨z,B,C,D⟩:=j.o.c4;replace G:=Hd hr;clear hr;obtain⟨af,W⟩:∃x,(ah:Int)*f=x:=⟨_,rfl⟩;have bn:0≤af:=by rw [←W];exact Int.mul_nonneg (by omega) (by omega)
  have bo:af≤24:=by
   have h1:(ah:Int)*f≤3*f:=Int.mul_le_mul_of_nonneg_right (by omega) (by omega);omega
  have a2:=Hd W;have b6:IntKind.i64.wrap ((ah:Int)*f)=af:=by rw [W];exact Ag _ (by omega)
  have bd:IntKind.i64.wrap (fr+af)=fr+af:=Ag _ (by omega);clear W;clear z B C D;go_upto_region 11 with fail
  go_loopw [16] (fun u wr=>∃k:Nat,u= Aa Ab k∧k≤N∧(∀i,i<k→Mh l ⟨p,q,t,v⟩ f i=true)∧Below w5.heap.size w5 wr) (fun u _=>N-(intOf u).toNat)
  case atStart=>exact⟨0,rfl,Nat.zero_le _,fun i hi=>absurd hi (Nat.not_lt_zero _),Af _ _⟩
  case round=>
   obtain⟨k,rfl,b5,aa,d⟩:=hrel;have Z:=Hd aa;replace s:=Hd (s.o.pure d);replace j:=Hd (j.o.pure d);have U:=m;replace m:=Hd d;clear aa d;obtain ⟨z,B,C,D⟩:=j.o.c4;by_cases hk:k<N
   ·obtain⟨⟨J,K,L,M⟩,aj⟩:∃y,Cq l ⟨p,q,t,v⟩ k=y:=⟨_,rfl⟩;have an:=aj;unfold Cq at an;simp only [Rq.mk.injEq] at an;obtain⟨O,P,Q,R⟩:=an;obtain⟨ke,S⟩:∃a,Eu l p q t v k=a:=⟨_,rfl⟩;obtain⟨kf,Y⟩:∃x,(k:Int)*f=x:=⟨_,rfl⟩;have bs:0≤kf:=by rw [←Y];exact Int.mul_nonneg (by omega) (by omega)
    have bt:kf≤34359738368:=by
     have h1:(k:Int)*f≤k*8:=Int.mul_le_mul_of_nonneg_left (by omega) (by omega);omega
    have b7:IntKind.i64.wrap ((k:Int)*f)=kf:=by rw [Y];exact Ag _ (by omega)
    have b8:IntKind.i64.wrap (fr+af+kf)=fr+af+kf:=Ag _ (by omega);have b9:IntKind.i64.wrap ((k:Int)+1)=(k:Int)+1:=Ag _ (by omega);obtain⟨st,H⟩:∃b,Cy l J K L M (fr+af+kf) f=b:=⟨_,rfl⟩;have aw:Mh l ⟨p,q,t,v⟩ f k=st:=by
     unfold Mh;rw [aj];simp only [au.o,ap.o,a2.o,Y];exact H
    have HP:=Hd O;have ag:=Hd P;have HT:=Hd Q;have HV:=Hd R;have ae:=Hd S;have ai:=Hd H;have ar:=Hd aw;clear O P Q R S H aj aw Y;go_wp2_with fail;go_at_call 104;refine(N8 A n c p q t v k J K L M ke l _ s.o I HP.o ag.o HT.o HV.o ae.o).mono ?_;rintro e F ⟨rfl,d⟩;replace m:=Hd (Ba m.o d);replace s:=Hd (s.o.pure d);replace j:=Hd (j.o.pure d);clear z B C D d;obtain ⟨z,B,C,D⟩:=j.o.c4;go_upto_region 14 with fail
    have E:Below F.heap.size F (F.alloc (.cells (Adl J K L M) 70)):=(Af _ _).alloc (Ae _) _;have V:=Hd (Bh.new F 70 (Adl J K L M));replace m:=Hd (Ba m.o E);replace s:=Hd (s.o.pure E);replace j:=Hd (j.o.pure E);clear z B C D E;generalize F.alloc (.cells (Adl J K L M) 70)=wm at m s j V⊢;generalize F.heap.size=bk at V⊢;obtain ⟨z,B,C,D⟩:=j.o.c4;obtain ⟨k0,k1,k2,k3⟩:=V.o.c4;go_wp2_with fail;go_at_call 63;refine(Re A n c J K L M (fr+af+kf) f st l _ s.o I (by omega) HF.o ai.o).mono ?_;rintro e w6 ⟨rfl,d⟩;replace m:=Hd (Ba m.o d);replace s:=Hd (s.o.pure d);replace j:=Hd (j.o.pure d);clear z B C D d;obtain ⟨z,B,C,D⟩:=j.o.c4;clear k0 k1 k2 k3 V;cases st with
    |true=>
     go_wp2_with fail;go_roundw
     case rel=>
      refine⟨k+1,by go_num,hk,fun i hi=>?_,m.o⟩;by_cases ba:i<k
      ·exact Z.o i ba
      ·have:i=k:=by omega
       rw [this];exact ar.o
     case measure=>simp [intOf];omega
    |false=>
     have hr:r=false:=by
      rw [←G.o];apply Bool.eq_false_iff.2;intro h;have h1:=List.all_eq_true.1 h k (List.mem_range.2 hk);rw [ar.o] at h1;cases h1
     subst hr;go_wp2_with fail;go_ret;exact⟨rfl,Ba U.o m.o⟩
   ·have bb:k=N:=by omega
    have hr:r=true:=by
     rw [←G.o,List.all_eq_true];intro i hi;exact Z.o i (by have:=List.mem_range.1 hi;omega)
    subst hr;have hd:decide (k<N)=false:=decide_eq_false (by omega);clear hk bb z B C D;go_wp2_with fail;go_ret;exact⟨rfl,Ba U.o m.o⟩
end Go.Proofs.YtejpbijeifjdeaaGreat
