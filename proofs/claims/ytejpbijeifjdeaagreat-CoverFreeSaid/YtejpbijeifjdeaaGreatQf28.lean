/- Parts of the proof. -/
import Derived.Test.YtejpbijeifjdeaaGreatQf27
import Derived.Shelf.SlSortCmp.WholeK
import Derived.Shelf.SlicesG.Cmp
import Derived.Ground.SlsfProg
import Derived.Ground.SlgcProg
import Derived.Ground.NamesProg
import Derived.Lib.SlicesCompact
import Derived.Deep.LoopGhost
set_option maxHeartbeats 2000000
set_option maxRecDepth 100000
open Go.Value renaming int→Aa
open Go.IntKind renaming i64→Ab
open Nat renaming le_refl→Ae
open Go.RowKit.Below renaming refl→Af
open List renaming append_assoc→Am,length_take→Az,getElem?_eq_none→Bg
open Go.IntWalk renaming i64_in→Ao
open Go.Proofs.Tryz
open Go.Proofs.Tryz renaming prog→Ad
namespace Go.Proofs.YtejpbijeifjdeaaGreat
variable {E:Jn}{s:Bw}{w:World}{B g n c k:Nat}{d:Array P3}{a b e p q t v:Int}{l:List UInt8}
section
open Go.RowKit Go.Acc
theorem Aac{g:Option Nat}(h:Gb E g s w){x:Int}(hx:s.left-1=x):Gb E g s.burn (w.setCell ⟨E.bw,1,none⟩ (Aa Ab x))∧Et E g g w (w.setCell ⟨E.bw,1,none⟩ (Aa Ab x)):=by
 subst hx;have c:Fr (fun k=>k=E.bw) w (w.setCell ⟨E.bw,1,none⟩ (Aa Ab (s.left-1))):=Fr.setCell (S:=fun k=>k=E.bw) (Fr.refl _ _) (fun _=>rfl) _;have a:=h.ok;refine⟨⟨a,h.b.fr c ?_,h.W.set_ 1 _,h.M.fr c a.mw,h.O.fr c a.lw ?_,Nat.le_trans h.sz c.size⟩,c.mono ?_,fun _ _ h=>h⟩
 ·intro f d e;have:=a.hA f d;have:=a.w0;omega
 ·intro k j e;have:=(h.O.row k j).1;have:=a.w2;omega
 ·rintro k _ rfl i;exact i.2.2.1 rfl
theorem Adp{g:Option Nat}{w':World}(h:Gb E g s w)(x:P3)(hM:Mc w' E.bm (s.had++ [x]))(hf:Fr (fun k=>k=E.bm) w w'):Gb E g (s.see x) w'∧Et E g g w w':=by
 have a:=h.ok;refine⟨⟨a,h.b.fr hf ?_,h.W.fr hf (Ne.symm a.mw),hM,h.O.fr hf a.lm ?_,Nat.le_trans h.sz hf.size⟩,hf.mono ?_,fun _ _ h=>h⟩
 ·intro d c e;have:=a.hA d c;have:=a.m0;omega
 ·intro k i e;have:=(h.O.row k i).1;have:=a.m2;omega
 ·rintro k _ rfl f;exact f.2.1 rfl
theorem uB(A:Option Addr)(n c:Nat)(p q t v a er:Int)(l:List UInt8)(w:World)(hl:Cv w A n l)(hc:n≤c)(hn:n≤1099511627776)(h1:Cg l p q t v=a)(h2:Ch l p q t v=er):
  Calls Ad 79 #[.slice A n c,.agg (Afg p q t v)] w (Afc (.tuple #[Aa Ab a,Aa Ab er]) w):=by
 subst h1 h2;exact Im A n c p q t v l w hl hc (by omega)
theorem Zg(t:Int)(b:Bool)(w:World)(h:Bq t=b):Calls Ad 78 #[Aa Ab t] w (Afc (.bool b) w):=by
 subst h;exact Cz t w
theorem Wd(E:Jn):∀d,X0 E (Ct E.l d) d
 |0=>fun g s p q t v w h hd hs hr=>absurd hd (Nat.not_lt_zero _)
 |d+1=>fun g s p q t v w h hd hs hr=>by
  have ih:=Wd E d;have bb:=Hd ih;have m:=Hd (h.alloc (.cells (Afg p q t v) 70));have j:=Hd (h.lone 70 (Afg p q t v));have B:=Hd ((Et.refl E g w).alloc (.cells (Afg p q t v) 70));have bi:=h.ok.hc;have b6:=h.ok.hn;have bx:=h.len;obtain⟨bk,bo,bp,bn⟩:=hr;simp only at bk bo bp bn;clear ih h;have ak:8*s.left.toNat≤900000000:=by unfold Bw.size at hs;omega
  obtain⟨C,O,c2,D⟩:=m.o.cells;have F:=B9 j.o.1;have G:=B7 j.o.1;have H:=B6 j.o.1;have I:=Ca j.o.1;by_cases hl:s.left<1
  ·have hR:Ct E.l (d+1) ⟨p,q,t,v⟩ s=(s,260):=by unfold Ct;rw [if_pos hl]
   have P:=Hd hR;clear hR;go_enter func45,ntmps45;go_wp2_with fail;go_ret;rw [P.o];exact⟨rfl,_,m.o,B.o⟩
  ·have br:IntKind.i64.wrap (s.left-1)=s.left-1:=Ao _ (by omega);have b7:IntKind.i64.wrap (p+q)=p+q:=Ao _ (by omega);have bq:s.burn.size+8=s.size:=by unfold Bw.size Bw.burn;simp only;omega
   have a4:=Tj s.burn p (p+q) (Er t);have U:=Iz s.burn p (p+q) (Er t);have HL:=Hd (show 1≤s.left by omega);have f1:=m.o.W.frozen 1;have az:=Aac m.o (x:=s.left-1) rfl;have V:=Hd az;clear az;go_enter func45,ntmps45;go_upto_region 4 with fail
   replace m:=Hd V.o.1;replace j:=Hd (j.o.to V.o.2);replace B:=Hd (B.o.trans V.o.2);clear V f1;generalize (w.alloc (.cells (Afg p q t v) 70)).setCell ⟨E.bw,1,none⟩ (Aa Ab (s.left-1))=w1 at m j B⊢;clear C O c2 D F G H I;obtain⟨C,O,c2,D⟩:=m.o.cells;have F:=B9 j.o.1;have G:=B7 j.o.1;have H:=B6 j.o.1;have I:=Ca j.o.1;go_region_held3 (fun w'=>w'.cell? ⟨E.bw,0,none⟩=some (.slice E.A E.n E.c)∧w'.cell? ⟨E.bw,3,none⟩=some (.func (.func 44) #[] #[Afh E.bl])∧(w'.cell? ⟨w.heap.size,0,none⟩=some (Aa Ab p)∧w'.cell? ⟨w.heap.size,1,none⟩=some (Aa Ab q)∧w'.cell? ⟨w.heap.size,2,none⟩=some (Aa Ab t)∧w'.cell? ⟨w.heap.size,3,none⟩=some (Aa Ab v))) (first|with_reducible exact⟨C,D,F,G,H,I⟩|with_reducible exact⟨B8 C,B8 D,B8 F,B8 G,B8 H,B8 I⟩) (first|(go_at_call 77;(with_reducible refine(xJ t _).mono ?_);rintro e w2 ⟨rfl,hb⟩;replace B:=Hd (B.o.drew.below hb);replace m:=Hd (m.o.drew.pure hb);replace j:=Hd (j.o.drew.pure hb);clear C O c2 D F G H I;clear hb;obtain⟨C,O,c2,D⟩:=m.o.cells;have F:=B9 j.o.1;have G:=B7 j.o.1;have H:=B6 j.o.1;have I:=Ca j.o.1)|(go_at_call 44;(with_reducible refine(Ht p (p+q) (Er t) m.o (by have:=Il s.burn;omega)).mono ?_);rintro e w3 ⟨rfl,g3,av,ah⟩;replace B:=Hd (B.o.trans ah);replace j:=Hd (j.o.to ah);replace m:=Hd av;clear C O c2 D F G H I;clear av ah;obtain⟨C,O,c2,D⟩:=m.o.cells;have F:=B9 j.o.1;have G:=B7 j.o.1;have H:=B6 j.o.1;have I:=Ca j.o.1));obtain⟨s1,aa⟩:∃s1,s.burn.tell p (p+q) (Er t)=s1:=⟨_,rfl⟩;rw [aa] at a4 U;have a3:C7 ⟨p,q,t,v⟩ s=s1:=aa;have ad:s1.left.toNat<d:=by rw [U];unfold Bw.burn;simp only;omega
   have ae:s1.size≤899999993:=by omega
   replace m:=Hd (aa▸m.o);have Y:=Hd a3;clear aa a4 U a3 hl bq br hs hd ak;go_wp2_with fail;go_at_call 78;by_cases hi:Bq t=true
   ·refine(Zg t true _ hi).mono ?_;rintro e w4 ⟨rfl,hb⟩;replace B:=Hd (B.o.below hb);replace m:=Hd (m.o.pure hb);replace j:=Hd (j.o.pure hb);clear C O c2 D F G H I;clear hb;obtain⟨C,O,c2,D⟩:=m.o.cells;have F:=B9 j.o.1;have G:=B7 j.o.1;have H:=B6 j.o.1;have I:=Ca j.o.1;have hR:Ct E.l (d+1) ⟨p,q,t,v⟩ s=(s1,0):=by unfold Ct;rw [if_neg (Int.not_lt.mpr HL.o),if_pos hi,Y.o]
    have P:=Hd hR;clear hR hi;go_wp2_with fail;go_ret;rw [P.o];exact⟨rfl,_,m.o,B.o⟩
   ·have a0:Bq t=false:=by simpa using hi
    refine(Zg t false _ a0).mono ?_;rintro e w4 ⟨rfl,hb⟩;replace B:=Hd (B.o.below hb);replace m:=Hd (m.o.pure hb);replace j:=Hd (j.o.pure hb);clear C O c2 D F G H I;clear hb;obtain⟨C,O,c2,D⟩:=m.o.cells;have F:=B9 j.o.1;have G:=B7 j.o.1;have H:=B6 j.o.1;have I:=Ca j.o.1;have HI:=Hd hi;clear hi a0;obtain⟨a,ha⟩:∃a,Cg E.l p q t v=a:=⟨_,rfl⟩;obtain⟨er,Q⟩:∃a,Ch E.l p q t v=a:=⟨_,rfl⟩;have HA:=Hd ha;have af:=Hd Q;clear ha Q;go_wp2_with fail;go_region_held3 (fun w'=>w'.cell? ⟨E.bw,0,none⟩=some (.slice E.A E.n E.c)∧w'.cell? ⟨E.bw,3,none⟩=some (.func (.func 44) #[] #[Afh E.bl])∧(w'.cell? ⟨w.heap.size,0,none⟩=some (Aa Ab p)∧w'.cell? ⟨w.heap.size,1,none⟩=some (Aa Ab q)∧w'.cell? ⟨w.heap.size,2,none⟩=some (Aa Ab t)∧w'.cell? ⟨w.heap.size,3,none⟩=some (Aa Ab v))) (first|with_reducible exact⟨C,D,F,G,H,I⟩|with_reducible exact⟨B8 C,B8 D,B8 F,B8 G,B8 H,B8 I⟩) (first|(go_at_call 79;(with_reducible refine(uB E.A E.n E.c p q t v a er E.l _ m.o.drew.b bi (by omega) HA.o af.o).mono ?_);rintro e R ⟨rfl,hb⟩;replace B:=Hd (B.o.drew.below hb);replace m:=Hd (m.o.drew.pure hb);replace j:=Hd (j.o.drew.pure hb);clear C O c2 D F G H I;clear hb;obtain⟨C,O,c2,D⟩:=m.o.cells;have F:=B9 j.o.1;have G:=B7 j.o.1;have H:=B6 j.o.1;have I:=Ca j.o.1));go_upto_region 9 with fail
    have HY:=Hd (Bk.new R 115 #[Aa Ab a,Aa Ab t,Aa Ab v]);replace m:=Hd (m.o.alloc (.cells #[Aa Ab a,Aa Ab t,Aa Ab v] 115));replace j:=Hd (j.o.pure ((Af _ _).alloc (Ae _) (.cells #[Aa Ab a,Aa Ab t,Aa Ab v] 115)));replace B:=Hd (B.o.alloc (.cells #[Aa Ab a,Aa Ab t,Aa Ab v] 115));have a2:F7 E.l ⟨p,q,t,v⟩=(a,t,v):=by unfold F7;simp only [HA.o]
    have a6:Ct E.l (d+1) ⟨p,q,t,v⟩ s=if er≠0∨(a,t,v)∈s1.had then(s1,er) else Ee E.l (Ct E.l d) ⟨p,q,t,v⟩ (s1.see (a,t,v)):=by
     unfold Ct;rw [if_neg (Int.not_lt.mpr HL.o),if_neg HI.o,Y.o,a2,af.o];have:s1.had=s.had:=by rw [←Y.o];exact Kp _ _ _ _
     rw [this]
    have Z:=Hd a6;clear a2 a6;clear C O c2 D F G H I;generalize R.alloc (.cells #[Aa Ab a,Aa Ab t,Aa Ab v] 115)=w6 at m j B HY⊢;obtain⟨C,O,c2,D⟩:=m.o.cells;have F:=B9 j.o.1;have G:=B7 j.o.1;have H:=B6 j.o.1;have I:=Ca j.o.1;obtain ⟨y0,y1,y2⟩:=HY.o.c3;by_cases Q:er=0
    ·subst Q;by_cases hm:(a,t,v)∈s1.had
     ·have a1:(Instr.lookup 74 (.map (some E.bm)) (.agg #[Aa Ab a,Aa Ab t,Aa Ab v]) false).run Ad w6.drew= .ok (.bool true) w6.drew:=by
       have:=Z3 underlying74 underlying115 Yn Ym Z6 E.bm s1.had (a,t,v) w6.drew m.o.drew.M;rw [decide_eq_true hm] at this;exact this
      have hr:=Z.o;rw [if_pos (.inr hm)] at hr;have P:=Hd hr;clear hr hm;go_region_held3 (fun w'=>w'.cell? ⟨E.bw,2,none⟩=some (.map (some E.bm))∧(w'.cell? ⟨R.heap.size,0,none⟩=some (Aa Ab a)∧w'.cell? ⟨R.heap.size,1,none⟩=some (Aa Ab t)∧w'.cell? ⟨R.heap.size,2,none⟩=some (Aa Ab v))) (first|with_reducible exact⟨c2,y0,y1,y2⟩|with_reducible exact⟨B8 c2,B8 y0,B8 y1,B8 y2⟩) (fail);go_wp2_with fail;go_ret;rw [P.o];exact⟨rfl,_,m.o.drew,B.o.drew⟩
     ·have a1:(Instr.lookup 74 (.map (some E.bm)) (.agg #[Aa Ab a,Aa Ab t,Aa Ab v]) false).run Ad w6.drew= .ok (.bool false) w6.drew:=by
       have:=Z3 underlying74 underlying115 Yn Ym Z6 E.bm s1.had (a,t,v) w6.drew m.o.drew.M;rw [decide_eq_false hm] at this;exact this
      have hr:=Z.o;rw [if_neg (by simp [hm])] at hr;have P:=Hd hr;obtain⟨w7,T,ax,aj,a5⟩:=xX underlying74 underlying115 Yn Ym E.bm s1.had (a,t,v) w6.drew.drew m.o.drew.drew.M hm;obtain⟨aw,ai⟩:=Adp m.o.drew.drew (a,t,v) ax aj;have X:=Hd aw;have ao:=Hd (j.o.drew.drew.to ai);have an:=Hd (B.o.drew.drew.trans ai);replace T:(Instr.mapUpdate 74 (.map (some E.bm)) (.agg #[.int .i64 a,.int .i64 t,.int .i64 v]) (.bool true)).run Ad w6.drew.drew= .ok () w7:=T;have d2:=X.o.cells.2.2.1;have a7:R.heap.size≠E.bm:=by
       have:=HY.o;have h2:=m.o.M;rintro e;obtain⟨es,k,hb,_⟩:=h2;rw [←e] at hb;unfold Bk at this;rw [this] at hb;cases hb
      have aq:=Hd (HY.o.drew.drew.fr aj a7);obtain ⟨z0,z1,z2⟩:=aq.o.c3;clear hr hm ax aj a5 aw ai a7 Z Y HL HA af HI;go_region_held3 (fun w'=>w'.cell? ⟨E.bw,2,none⟩=some (.map (some E.bm))∧(w'.cell? ⟨R.heap.size,0,none⟩=some (Aa Ab a)∧w'.cell? ⟨R.heap.size,1,none⟩=some (Aa Ab t)∧w'.cell? ⟨R.heap.size,2,none⟩=some (Aa Ab v))) (first|with_reducible exact⟨c2,y0,y1,y2⟩|with_reducible exact⟨B8 c2,B8 y0,B8 y1,B8 y2⟩) (fail);go_wp2_with fail;go_region_held3 (fun w'=>w'.cell? ⟨E.bw,2,none⟩=some (.map (some E.bm))∧(w'.cell? ⟨R.heap.size,0,none⟩=some (Aa Ab a)∧w'.cell? ⟨R.heap.size,1,none⟩=some (Aa Ab t)∧w'.cell? ⟨R.heap.size,2,none⟩=some (Aa Ab v))) (first|with_reducible exact⟨c2,y0,y1,y2⟩|with_reducible exact⟨B8 c2,B8 y0,B8 y1,B8 y2⟩|with_reducible exact⟨B8 (B8 c2),B8 (B8 y0),B8 (B8 y1),B8 (B8 y2)⟩|with_reducible exact⟨d2,z0,z1,z2⟩) (fail);obtain⟨s2,ab⟩:∃s2,s1.see (a,t,v)=s2:=⟨_,rfl⟩;have bj:s2.left.toNat<d:=by subst ab;exact ad
      have b8:s2.size≤899999993:=by subst ab;exact ae
      rw [ab] at X P;clear ab a1 T d2 z0 z1 z2 y0 y1 y2 HY aq ad ae;clear C O c2 D F G H I;clear m j B;have m:=X;have j:=ao;have B:=an;clear X ao an;obtain⟨C,O,c2,D⟩:=m.o.cells;have F:=B9 j.o.1;have G:=B7 j.o.1;have H:=B6 j.o.1;have I:=Ca j.o.1;by_cases h4:t=4
      ·subst h4;obtain⟨y,N⟩:∃y,Ey E.l ⟨p,q,4,v⟩ s2=y:=⟨_,rfl⟩;have f:=Pp E _ s2 p q 4 v _ m.o (by have:=Il s2;omega);rw [N] at f;have i:=P.o.trans (show Ee E.l (Ct E.l d) ⟨p,q,4,v⟩ s2=Ey E.l ⟨p,q,4,v⟩ s2 from rfl);rw [N] at i;have r:=Hd f;have K:=Hd i;clear N f i;go_wp2_with fail;go_at_call 80;refine r.o.mono ?_;rintro e w8 ⟨rfl,g8,u,z⟩;have J:=Hd u;have L:=Hd z;clear C O c2 D F G H I;clear u z r;go_wp2_with fail;go_ret;rw [K.o];exact⟨rfl,_,J.o,B.o.trans L.o⟩
      have e4:(t==4)=false:=beq_eq_false_iff_ne.mpr h4;by_cases h5:t=5
      ·subst h5;obtain⟨y,N⟩:∃y,Ey E.l ⟨p,q,5,v⟩ s2=y:=⟨_,rfl⟩;have f:=Pp E _ s2 p q 5 v _ m.o (by have:=Il s2;omega);rw [N] at f;have i:=P.o.trans (show Ee E.l (Ct E.l d) ⟨p,q,5,v⟩ s2=Ey E.l ⟨p,q,5,v⟩ s2 from rfl);rw [N] at i;have r:=Hd f;have K:=Hd i;clear N f i;go_wp2_with fail;go_at_call 80;refine r.o.mono ?_;rintro e w8 ⟨rfl,g8,u,z⟩;have J:=Hd u;have L:=Hd z;clear C O c2 D F G H I;clear u z r;go_wp2_with fail;go_ret;rw [K.o];exact⟨rfl,_,J.o,B.o.trans L.o⟩
      have e5:(t==5)=false:=beq_eq_false_iff_ne.mpr h5;by_cases ag:t=25
      ·subst ag;obtain⟨y,N⟩:∃y,Ey E.l ⟨p,q,25,v⟩ s2=y:=⟨_,rfl⟩;have f:=Pp E _ s2 p q 25 v _ m.o (by have:=Il s2;omega);rw [N] at f;have i:=P.o.trans (show Ee E.l (Ct E.l d) ⟨p,q,25,v⟩ s2=Ey E.l ⟨p,q,25,v⟩ s2 from rfl);rw [N] at i;have r:=Hd f;have K:=Hd i;clear N f i;go_wp2_with fail;go_at_call 80;refine r.o.mono ?_;rintro e w8 ⟨rfl,g8,u,z⟩;have J:=Hd u;have L:=Hd z;clear C O c2 D F G H I;clear u z r;go_wp2_with fail;go_ret;rw [K.o];exact⟨rfl,_,J.o,B.o.trans L.o⟩
      have b3:(t==25)=false:=beq_eq_false_iff_ne.mpr ag;by_cases h6:t=6
      ·subst h6;obtain⟨y,N⟩:∃y,E7 E.l ⟨p,q,6,v⟩ s2=y:=⟨_,rfl⟩;have f:=Sk E _ s2 p q 6 v _ m.o (by have:=Il s2;omega);rw [N] at f;have i:=P.o.trans (show Ee E.l (Ct E.l d) ⟨p,q,6,v⟩ s2=E7 E.l ⟨p,q,6,v⟩ s2 from rfl);rw [N] at i;have r:=Hd f;have K:=Hd i;clear N f i;go_wp2_with fail;go_at_call 81;refine r.o.mono ?_;rintro e w8 ⟨rfl,g8,u,z⟩;have J:=Hd u;have L:=Hd z;clear C O c2 D F G H I;clear u z r;go_wp2_with fail;go_ret;rw [K.o];exact⟨rfl,_,J.o,B.o.trans L.o⟩
      have e6:(t==6)=false:=beq_eq_false_iff_ne.mpr h6;by_cases h7:t=7
      ·subst h7;obtain⟨y,N⟩:∃y,E7 E.l ⟨p,q,7,v⟩ s2=y:=⟨_,rfl⟩;have f:=Sk E _ s2 p q 7 v _ m.o (by have:=Il s2;omega);rw [N] at f;have i:=P.o.trans (show Ee E.l (Ct E.l d) ⟨p,q,7,v⟩ s2=E7 E.l ⟨p,q,7,v⟩ s2 from rfl);rw [N] at i;have r:=Hd f;have K:=Hd i;clear N f i;go_wp2_with fail;go_at_call 81;refine r.o.mono ?_;rintro e w8 ⟨rfl,g8,u,z⟩;have J:=Hd u;have L:=Hd z;clear C O c2 D F G H I;clear u z r;go_wp2_with fail;go_ret;rw [K.o];exact⟨rfl,_,J.o,B.o.trans L.o⟩
      have e7:(t==7)=false:=beq_eq_false_iff_ne.mpr h7;have S:Ee E.l (Ct E.l d) ⟨p,q,t,v⟩ s2=Gl E.l (Ct E.l d) ⟨p,q,t,v⟩ s2:=by
       unfold Ee;rw [if_neg (by simp [G3];omega),if_neg (by simp only;omega)]
      have ba:=Hd S;clear S h4 h5 ag h6 h7;obtain⟨y,N⟩:∃y,Gl E.l (Ct E.l d) ⟨p,q,t,v⟩ s2=y:=⟨_,rfl⟩;have f:=iH E _ d bb.o (Sf E.l d) _ s2 p q t v _ m.o bj (by omega);rw [N] at f;have i:=P.o.trans (show Ee E.l (Ct E.l d) ⟨p,q,t,v⟩ s2=Gl E.l (Ct E.l d) ⟨p,q,t,v⟩ s2 from ba.o);rw [N] at i;have r:=Hd f;have K:=Hd i;clear N f i;go_wp2_with fail;go_at_call 82;refine r.o.mono ?_;rintro e w8 ⟨rfl,g8,u,z⟩;have J:=Hd u;have L:=Hd z;clear C O c2 D F G H I;clear u z r;go_wp2_with fail;go_ret;rw [K.o];exact⟨rfl,_,J.o,B.o.trans L.o⟩
    ·have b5:(er != 0)=true:=by simpa using Q
     have hr:=Z.o;rw [if_pos (.inl Q)] at hr;have P:=Hd hr;clear hr Q;go_quiet (fail);go_wp2_with fail;go_ret;rw [P.o];exact⟨rfl,_,m.o.pure (below_drewN (Af _ _) _),B.o.below (below_drewN (Af _ _) _)⟩
end
section
open Go.Shelf Go.RowKit Go.Lib Go.Acc
def fW:Go.Shelf.Ren:=⟨fun|6=>83|15=>157|14=>156|28=>261|29=>66|20=>253|21=>254|22=>255|23=>256|24=>257|25=>258|26=>259|27=>260|46=>313|47=>314|48=>315|49=>316|50=>317|57=>350|n=>n,fun|22=>42|24=>46|25=>81|3=>3|39=>103|0=>0|53=>296|55=>26|4=>4|46=>290|45=>289|50=>183|5=>5|9=>9|66=>327|70=>331|76=>358|77=>297|n=>n,fun|n=>n⟩
theorem yB:Go.Proofs.SlLaysF0.n6 Ad fW:={
 mixed:=by kernel_rfl
 f6:=⟨Tryz.f83.name,by decide,func83.trans (congrArg some (by kernel_rfl))⟩
 f14:=⟨Tryz.f156.name,by decide,func156.trans (congrArg some (by kernel_rfl))⟩
 f15:=func157.trans (congrArg some (by kernel_rfl))
 f20:=⟨Tryz.f253.name,by decide,func253.trans (congrArg some (by kernel_rfl))⟩
 f21:=⟨Tryz.f254.name,by decide,func254.trans (congrArg some (by kernel_rfl))⟩
 f22:=⟨Tryz.f255.name,by decide,func255.trans (congrArg some (by kernel_rfl))⟩
 f23:=⟨Tryz.f256.name,by decide,func256.trans (congrArg some (by kernel_rfl))⟩
 f24:=⟨Tryz.f257.name,by decide,func257.trans (congrArg some (by kernel_rfl))⟩
 f25:=⟨Tryz.f258.name,by decide,func258.trans (congrArg some (by kernel_rfl))⟩
 f26:=⟨Tryz.f259.name,by decide,func259.trans (congrArg some (by kernel_rfl))⟩
 f27:=⟨Tryz.f260.name,by decide,func260.trans (congrArg some (by kernel_rfl))⟩
 f28:=func261.trans (congrArg some (by kernel_rfl))
 f29:=func66.trans (congrArg some (by kernel_rfl))
 f46:=⟨Tryz.f313.name,by decide,func313.trans (congrArg some (by kernel_rfl))⟩
 f47:=func314.trans (congrArg some (by kernel_rfl))
 f48:=func315.trans (congrArg some (by kernel_rfl))
 f49:=⟨Tryz.f316.name,by decide,func316.trans (congrArg some (by kernel_rfl))⟩
 f50:=⟨Tryz.f317.name,by decide,func317.trans (congrArg some (by kernel_rfl))⟩
 f57:=⟨Tryz.f350.name,by decide,func350.trans (congrArg some (by kernel_rfl))⟩
 t0:=underlying0
 a0:=isAgg0
 z0:=sizeOf0
 v0:=zeroValue0
 t3:=underlying3
 a3:=isAgg3
 z3:=sizeOf3
 v3:=zeroValue3
 t4:=underlying4
 a4:=isAgg4
 z4:=sizeOf4
 v4:=zeroValue4
 t5:=underlying5
 a5:=isAgg5
 z5:=sizeOf5
 v5:=zeroValue5
 t9:=underlying9
 a9:=isAgg9
 z9:=sizeOf9
 v9:=zeroValue9
 t22:=underlying42
 a22:=isAgg42
 z22:=sizeOf42
 v22:=zeroValue42
 t25:=underlying81
 a25:=isAgg81
 z25:=sizeOf81
 v25:=zeroValue81
 t39:=underlying103
 a39:=isAgg103
 z39:=sizeOf103
 v39:=zeroValue103
 t45:=underlying289
 a45:=isAgg289
 z45:=sizeOf289
 v45:=zeroValue289
 t46:=underlying290
 a46:=isAgg290
 z46:=sizeOf290
 v46:=zeroValue290
 t50:=underlying183
 a50:=isAgg183
 z50:=sizeOf183
 v50:=zeroValue183
 t53:=underlying296
 a53:=isAgg296
 z53:=sizeOf296
 v53:=zeroValue296
 t55:=underlying26
 a55:=isAgg26
 z55:=sizeOf26
 v55:=zeroValue26
 t66:=underlying327
 a66:=isAgg327
 z66:=sizeOf327
 v66:=zeroValue327
 t70:=underlying331
 a70:=isAgg331
 z70:=sizeOf331
 v70:=zeroValue331
 t76:=underlying358
 a76:=isAgg358
 z76:=sizeOf358
 v76:=zeroValue358
 t77:=underlying297
 a77:=isAgg297
 z77:=sizeOf297
 v77:=zeroValue297}
def mO:Go.Shelf.Ren:=⟨fun|5=>49|7=>85|n=>n,fun|22=>3|3=>3|4=>4|n=>n,fun|n=>n⟩
theorem Acn:Go.Proofs.SlLaysC2.n5 Ad mO:={
 mixed:=by kernel_rfl
 f5:=⟨Tryz.f49.name,by decide,func49.trans (congrArg some (by kernel_rfl))⟩
 f7:=⟨Tryz.f85.name,by decide,func85.trans (congrArg some (by kernel_rfl))⟩
 t3:=underlying3
 a3:=isAgg3
 z3:=sizeOf3
 v3:=zeroValue3
 t4:=underlying4
 a4:=isAgg4
 z4:=sizeOf4
 v4:=zeroValue4
 t22:=underlying3
 a22:=isAgg3
 z22:=sizeOf3
 v22:=zeroValue3}
end
section
open Go.RowKit Go.Acc
def Xf(x y z:Int):Int:=if x≠0 then x else if y≠0 then y else z
theorem Abb(b:Nat)(x y z:Int)(w:World)(h0:w.cell? ⟨b,0,none⟩=some (Aa Ab x))(h1:w.cell? ⟨b,1,none⟩=some (Aa Ab y))(h2:w.cell? ⟨b,2,none⟩=some (Aa Ab z)):
  Calls Ad 48 #[.slice (some ⟨b,0,none⟩) 3 3] w (Afd (Aa Ab (Xf x y z)) w):=by
 by_cases a:x=0
 ·subst a;by_cases c:y=0
  ·subst c;by_cases d:z=0
   ·subst d;go_enter func48,ntmps48;go_wp2;refine wp_loop_rounds 4 ?_
    repeat (rw [rounds_succ];go_wp2)
    all_goals
     go_ret;exact⟨rfl,rfl⟩
   ·have h:(z != 0)=true:=by simpa using d
    have e:Xf 0 0 z=z:=rfl;rw [e];clear d e;go_enter func48,ntmps48;go_wp2;refine wp_loop_rounds 4 ?_
    repeat (rw [rounds_succ];go_wp2)
    all_goals
     go_ret;exact⟨rfl,rfl⟩
  ·have g:(y != 0)=true:=by simpa using c
   have e:Xf 0 y z=y:=by unfold Xf;rw [if_neg (by decide),if_pos c]
   rw [e];clear c e;go_enter func48,ntmps48;go_wp2;refine wp_loop_rounds 4 ?_
   repeat (rw [rounds_succ];go_wp2)
   all_goals
    go_ret;exact⟨rfl,rfl⟩
 ·have f:(x != 0)=true:=by simpa using a
  have e:Xf x y z=x:=by unfold Xf;rw [if_pos a]
  rw [e];clear a e;go_enter func48,ntmps48;go_wp2;refine wp_loop_rounds 4 ?_
  repeat (rw [rounds_succ];go_wp2)
  all_goals
   go_ret;exact⟨rfl,rfl⟩
theorem Qs(x y:Int)(r:Int)(hr:Lib.compareInt x y=r)(w:World):Calls Ad 49 #[Aa Ab x,Aa Ab y] w (Afd (Aa Ab r) w):=by
 subst hr;have h:=AnyG.cmp_Compare_int Acn x y w;change Calls Ad 49 _ _ _ at h;exact h.mono fun _ _ ⟨he,hw⟩=>⟨he,hw.symm⟩
def Y2(x y:P3):Int:=Xf (Lib.compareInt x.1 y.1) (Lib.compareInt x.2.1 y.2.1) (Lib.compareInt x.2.2 y.2.2)
theorem iV(a b c a' b' c':Int)(w:World):
  Calls Ad 47 #[.agg #[Aa Ab a,Aa Ab b,Aa Ab c],.agg #[Aa Ab a',Aa Ab b',Aa Ab c']] w fun e w'=>e= .returned (Aa Ab (Y2 (a,b,c) (a',b',c')))∧∃q os,w'=Sort.grow (w.drewN q) os:=by
 obtain⟨r,d⟩:∃r,Lib.compareInt a a'=r:=⟨_,rfl⟩;obtain⟨s,f⟩:∃r,Lib.compareInt b b'=r:=⟨_,rfl⟩;obtain⟨t,ht⟩:∃r,Lib.compareInt c c'=r:=⟨_,rfl⟩;have e:Y2 (a,b,c) (a',b',c')=Xf r s t:=by unfold Y2;simp only [d,f,ht]
 rw [e];have v:=Hd d;have x:=Hd f;have y:=Hd ht;clear d f ht e;go_enter func47,ntmps47;go_upto_region 1 with fail
 have p:=Hd ((Bk.new w 46 #[Aa Ab a,Aa Ab b,Aa Ab c]).alloc (.cells #[Aa Ab a',Aa Ab b',Aa Ab c'] 46));have u:=Hd (Bk.new_ (w:=w.alloc (.cells #[Aa Ab a,Aa Ab b,Aa Ab c] 46)) (g:=w.heap.size+1) (by simp) 46 #[Aa Ab a',Aa Ab b',Aa Ab c']);have n:=Hd (show ∃q os,(w.alloc (.cells #[Aa Ab a,Aa Ab b,Aa Ab c] 46)).alloc (.cells #[Aa Ab a',Aa Ab b',Aa Ab c'] 46)=Sort.grow (w.drewN q) os from⟨0,_,by rw [Sort.alloc_eq_grow,Sort.alloc_eq_grow,Sort.grow_grow];rfl⟩);generalize (w.alloc (.cells #[Aa Ab a,Aa Ab b,Aa Ab c] 46)).alloc (.cells #[Aa Ab a',Aa Ab b',Aa Ab c'] 46)=w1 at p u n⊢;obtain ⟨h,i,j⟩:=p.o.c3;obtain ⟨k,l,m⟩:=u.o.c3;have A:=Hd (show(w1.alloc (.cells #[Aa Ab r,Aa Ab s,Aa Ab t] 3)).drew.cell? ⟨w1.heap.size,0,none⟩=some (Aa Ab r) from(Bk.new w1 3 _).cell 0);have B:=Hd (show(w1.alloc (.cells #[Aa Ab r,Aa Ab s,Aa Ab t] 3)).drew.cell? ⟨w1.heap.size,1,none⟩=some (Aa Ab s) from(Bk.new w1 3 _).cell 1);have C:=Hd (show(w1.alloc (.cells #[Aa Ab r,Aa Ab s,Aa Ab t] 3)).drew.cell? ⟨w1.heap.size,2,none⟩=some (Aa Ab t) from(Bk.new w1 3 _).cell 2);go_region_held3 (fun w'=>w'.cell? ⟨w.heap.size,0,none⟩=some (Aa Ab a)∧w'.cell? ⟨w.heap.size,1,none⟩=some (Aa Ab b)∧w'.cell? ⟨w.heap.size,2,none⟩=some (Aa Ab c)∧w'.cell? ⟨w.heap.size+1,0,none⟩=some (Aa Ab a')∧w'.cell? ⟨w.heap.size+1,1,none⟩=some (Aa Ab b')∧w'.cell? ⟨w.heap.size+1,2,none⟩=some (Aa Ab c'))
  (first|with_reducible exact⟨h,i,j,k,l,m⟩|with_reducible exact⟨C4 h,C4 i,C4 j,C4 k,C4 l,C4 m⟩|with_reducible exact⟨C4 (Jz _ h),C4 (Jz _ i),C4 (Jz _ j),C4 (Jz _ k),C4 (Jz _ l),C4 (Jz _ m)⟩)
  (first
   |(go_at_call 49;(first|(with_reducible refine(Qs a a' r v.o _).mono ?_)|(with_reducible refine(Qs b b' s x.o _).mono ?_)|(with_reducible refine(Qs c c' t y.o _).mono ?_));rintro e w' ⟨rfl,rfl⟩)
   |(go_at_call 48;(with_reducible refine(Abb w1.heap.size r s t _ A.o B.o C.o).mono ?_);rintro e w' ⟨rfl,rfl⟩))
 go_wp2_with fail;go_ret;obtain⟨q,os,z⟩:=n.o;rw [z];exact⟨rfl,q+1,_,by rw [Sort.alloc_eq_grow,Sort.grow_grow];rfl⟩
end
section
open Go.RowKit Go.Acc Go.Sort
def Jp(x y:P3):Prop:=x.1<y.1∨(x.1=y.1∧(x.2.1<y.2.1∨(x.2.1=y.2.1∧x.2.2<y.2.2)))
instance (x y:P3):Decidable (Jp x y):=by unfold Jp;infer_instance
theorem vM(a b:Int):(a<b∧Lib.compareInt a b= -1)∨(a=b∧Lib.compareInt a b=0)∨(b<a∧Lib.compareInt a b=1):=by
 unfold Lib.compareInt;by_cases h1:a<b
 ·simp [h1]
 ·by_cases h2:b<a
  ·simp [h1,h2]
  ·have:a=b:=by omega
   simp [this]
theorem Wz(x y:P3):ltOf Y2 x y=decide (Jp x y):=by
 unfold ltOf Y2 Xf Jp;rcases vM x.1 y.1 with⟨h1,e1⟩|⟨h1,e1⟩|⟨h1,e1⟩ <;>rcases vM x.2.1 y.2.1 with⟨h2,e2⟩|⟨h2,e2⟩|⟨h2,e2⟩ <;>rcases vM x.2.2 y.2.2 with⟨h3,e3⟩|⟨h3,e3⟩|⟨h3,e3⟩ <;>rw [e1,e2,e3] <;>(apply decide_eq_decide.2;simp;omega)
theorem Ae4:SWO (ltOf Y2) where
 irrefl x:=by rw [Wz];apply decide_eq_false;unfold Jp;omega
 trans x y z h1 h2:=by rw [Wz] at *;have h1:=of_decide_eq_true h1;have h2:=of_decide_eq_true h2;apply decide_eq_true;unfold Jp at *;omega
 ntrans x y z h1 h2:=by rw [Wz] at *;have h1:=of_decide_eq_false h1;have h2:=of_decide_eq_false h2;apply decide_eq_false;unfold Jp at *;omega
theorem wS(x:P3):(pc x).length=3:=rfl
theorem Ae2(x:P3):∀v∈pc x,v.oneCell'=true:=tB x
def pK(l:List P3):Prop:=∀(i j:Nat) (hi:i<l.length) (hj:j<l.length),i<j→¬Jp l[j] l[i]
theorem oL(B g n c:Nat)(l:List P3)(w:World)(h:Ki w B (some ⟨g,0,none⟩) n c l)(hn:n≤2147483648):
  Calls Ad 83 #[.slice (some ⟨g,0,none⟩) n c,.func (.func 47) #[] #[]] w fun e w'=>e= .returned (.tuple #[])∧∃m:List P3,m.Perm l∧pK m∧Ki w' B (some ⟨g,0,none⟩) n c m∧Fr (fun k=>k=g) w w':=by
 have z:∀args w,(callFunc 47 args).run Ad w= .ok (.enter 47 args) w:=enters_of func47 (by kernel_rfl) rfl;have f:CmpLays Ad 47 #[] pc 3 Y2 g 0 l.toArray.size w:=fun _ _ _ _ x y=>iV x.1 x.2.1 x.2.2 y.1 y.2.1 y.2.2 _
 have p:g<w.heap.size:=(Ri h.2 rfl).elim fun _ h=>h.1.lt
 have a:l.toArray.size=n:=by rw [List.size_toArray];exact h.1
 have q:=AnyQ.slices_SortFunc yB 3 isAgg46 sizeOf46 pc wS Ae2 Y2 Ae4 47 #[] g 0 c l.toArray w z f (own_holds wS (by decide) h) p (by omega);rw [a] at q;change Calls Ad 83 _ _ _ at q;refine q.mono ?_;rintro e w' ⟨rfl,d,m,C,v,r,rfl⟩;have b:d.size=n:=by rw [v.1,a]
 obtain⟨h1,h2⟩:=oF wS (by decide) h d b m C;refine⟨rfl,d.toList,?_,?_,h1,h2⟩
 ·have h3:=v.2.2;rw [show d.extract 0 n=d by rw [←b];simp,show l.toArray.extract 0 n=l.toArray by rw [←a];simp] at h3;simpa using h3
 ·intro i j t u o;rw [Array.length_toList] at t u;have s:=r i j (Nat.zero_le _) o (by omega);rw [Wz,getElem!_pos d j u,getElem!_pos d i t] at s;have A:=of_decide_eq_false s;simpa using A
end
end Go.Proofs.YtejpbijeifjdeaaGreat
namespace Go.Acc
open Go.RowKit Go.Sort Go.Proofs
section
variable {α:Type} {f:α→List Value} {sz:Nat} {w:World} {B g n c:Nat} {e:TypeId} {l:List α} {P:Program}
theorem aH(t ty:TypeId)(z:Value)(ht:P.underlying t=some (.slice e))(hv:∀W,(zeroValue e).run P W= .ok z W)(hzs:z.cells.size=sz)(hz1:∀u∈z.cells.toList,u.oneCell'=true)(hf:∀x,(f x).length=sz)
  (h:Own f sz e w B (some ⟨g,0,none⟩) n c l) (k cc:Nat) (hk:k<n):
  ∃w',(Builtin.clear_ #[t] ty #[.slice (some ⟨g,k*sz,none⟩) (n-k) cc]).run P w= .ok (.tuple #[]) w'∧Own f sz e w' B (some ⟨g,0,none⟩) k c (l.take k)∧Fr (fun k=>k=g) w w':=by
 have s:∃cur,Bk w g e cur∧cur.size=c*sz∧cur.toList.take (n*sz)=l.flatMap f∧n≤c∧c≤maxLen∧B≤g:=by
  rcases h.2.2 with⟨hv,_⟩|⟨H,D,cur,hv,q,s,d,b,r,a⟩
  ·cases hv
  ·injection hv with h1 h2 h3
   injection h1 with h1
   injection h1 with h1
   subst h1 h3;exact⟨cur,s,r,a,d,b,q⟩
 obtain⟨cur,y,E,a,d,b,q⟩:=s;have A:(Builtin.zeroCells z.cells (n-k)).toList.length=(n-k)*sz:=by rw [Array.length_toList,size_zeroCells,hzs]
 have F:k*sz+(n-k)*sz=n*sz:=by rw [←Nat.add_mul];congr 1;omega
 have G:n*sz≤c*sz:=Nat.mul_le_mul_right _ d;have j:=run_storeCells_at P g (k*sz) e (Builtin.zeroCells z.cells (n-k)).toList 0 cur w y (by rw [A];omega) (by
  intro u C;simp only [Builtin.zeroCells,Array.toList_map,List.mem_map] at C;obtain⟨i,hi,rfl⟩:=C;have o:i<(n-k)*z.cells.size:=by simpa using hi
  have h0:0<z.cells.size:=by
   rcases Nat.eq_zero_or_pos z.cells.size with h|h
   ·rw [h] at o;simp at o
   ·exact h
  have p:i % z.cells.size<z.cells.size:=Nat.mod_lt _ h0;rw [getElem!_pos z.cells _ p];exact hz1 _ (by simp))
 simp only [Nat.add_zero] at j;obtain⟨m,v⟩:∃m,n-k=m+1:=⟨n-k-1,by omega⟩;refine⟨w.setRow g (cur.toList.take (k*sz)++(Builtin.zeroCells z.cells (n-k)).toList++cur.toList.drop (k*sz+(Builtin.zeroCells z.cells (n-k)).toList.length)).toArray,?_,⟨by rw [Az,h.1];omega,?_,.inr ⟨g,c,_,rfl,q,setRow_heap w g cur _ e _ y,by omega,b,?_,?_⟩⟩,⟨rfl,rfl,rfl,by simp [World.setRow],fun i _ hi=>setRow_other w g i _ (by rintro rfl;exact hi rfl)⟩⟩
 ·rw [v] at j⊢;simp [Builtin.clear_,run_underlying ht,hv,j]
 ·rw [Cm hf,Az,h.1,Nat.min_eq_left (by omega)]
 ·simp only [List.size_toArray,List.length_append,Az,List.length_drop,Array.length_toList];rw [Array.length_toList] at A;omega
 ·rw [N0 hf,←a,List.take_take,Am,List.take_append_of_le_length (by rw [Az,Array.length_toList];omega),List.take_take]
  congr 1
  omega
end
end Go.Acc
namespace Go.Proofs.YtejpbijeifjdeaaGreat
variable {E:Jn}{s:Bw}{w:World}{B g n c k:Nat}{d:Array P3}{a b e p q t v:Int}{l:List UInt8}
section
open Go.RowKit Go.Acc Go.Lib
theorem kJ:∀(x y:P3) (W:World),(Op.equal 46 (Iy x) (Iy y)).run Ad W= .ok (decide (x=y)) W:=by
 rintro⟨a,b,c⟩ ⟨a',b',c'⟩ W;by_cases h1:a=a' <;>by_cases h2:b=b' <;>by_cases h3:c=c' <;>(simp only [Iy];(change (Op.equalIn 10000 _ _ _).run Ad W=_);go_simp)
theorem fD(x y:P3)(b:Bool)(h:decide (x=y)=b):∀W:World,(binOp .eql 46 (.agg #[Aa Ab x.1,Aa Ab x.2.1,Aa Ab x.2.2]) (.agg #[Aa Ab y.1,Aa Ab y.2.1,Aa Ab y.2.2])).run Ad W= .ok (.bool b) W:=by
 intro W;subst h;rw [run_eql_struct];have h1:(Op.equalIn 10000 46 (.agg #[Aa Ab x.1,Aa Ab x.2.1,Aa Ab x.2.2]) (.agg #[Aa Ab y.1,Aa Ab y.2.1,Aa Ab y.2.2])).run Ad W=_:=kJ x y W;rw [h1];rfl
theorem Vo(x y:P3)(b:Bool)(h:(!decide (x=y))=b):∀W:World,(binOp .neq 46 (.agg #[Aa Ab x.1,Aa Ab x.2.1,Aa Ab x.2.2]) (.agg #[Aa Ab y.1,Aa Ab y.2.1,Aa Ab y.2.2])).run Ad W= .ok (.bool b) W:=by
 intro W;subst h;rw [run_neq_struct];have h1:(Op.equalIn 10000 46 (.agg #[Aa Ab x.1,Aa Ab x.2.1,Aa Ab x.2.2]) (.agg #[Aa Ab y.1,Aa Ab y.2.1,Aa Ab y.2.2])).run Ad W=_:=kJ x y W;rw [h1];rfl
theorem tail_run(g n c k:Nat)(hk:k<n)(hc:n≤c):∀w,(Instr.sliceAt 42 (.slice (some ⟨g,0,none⟩) n c) (some (Aa Ab k)) none none).run Ad w= .ok (.slice (some ⟨g,k*3,none⟩) (n-k) (c-k)) w:=by
 intro w;have ht:Ad.underlying 42=some (.slice (Ad.elem 42)):=by kernel_rfl
 have a:(sizeOf (Ad.elem 42)).run Ad w= .ok 3 w:=by kernel_rfl
 rw [run_sliceAt_slice (h:=ht),run_slice_l (ht:=ht) (h0:=by omega) (h1:=by omega),a];simp [Result.andThen,sliced,I6];omega
theorem head_run(g n c k:Nat)(hk:k≤c):∀w,(Instr.sliceAt 42 (.slice (some ⟨g,0,none⟩) n c) none (some (Aa Ab k)) none).run Ad w= .ok (.slice (some ⟨g,0,none⟩) k c) w:=by
 intro w;have ht:Ad.underlying 42=some (.slice (Ad.elem 42)):=by kernel_rfl
 have a:(sizeOf (Ad.elem 42)).run Ad w= .ok 3 w:=by kernel_rfl
 rw [run_sliceAt_slice (h:=ht),run_slice_h (ht:=ht) (h0:=by omega) (h2:=by omega),a];simp [Result.andThen,sliced,Addr.add]
theorem T7(h:Ki w B (some ⟨g,0,none⟩) n c d.toList)(hk:k<n)(hx:d[k]! =(a,b,e)):
  (w.cell? ⟨g,k*3,none⟩=some (Aa Ab a)∧w.cell? ⟨g,k*3+1,none⟩=some (Aa Ab b)∧w.cell? ⟨g,k*3+2,none⟩=some (Aa Ab e))∧w.frozen? ⟨g,k*3,none⟩=false∧w.frozen? ⟨g,k*3+1,none⟩=false∧w.frozen? ⟨g,k*3+2,none⟩=false:=by
 obtain⟨m,l,f,i,h1⟩:=h.is.at_ Kd (by omega) hk;injection f with f
 injection f with f e2
 subst f e2;have j:d.toList[k]=(a,b,e):=by
  rw [←hx,getElem!_pos d k (by simpa using i)];simp
 rw [j] at h1;have h0:=h1 0 (by omega);have h2:=h1 1 (by omega);have h3:=h1 2 (by omega);simp only [Nat.zero_add,Nat.add_zero] at h0 h2 h3;exact⟨⟨h0,h2,h3⟩,Lv h.2 _,Lv h.2 _,Lv h.2 _⟩
theorem xH(h:Ki w B (some ⟨g,0,none⟩) n c d.toList)(hk:k<n)(a b e:Int):
  Ki (((w.setCell ⟨g,k*3,none⟩ (Aa Ab a)).setCell ⟨g,k*3+1,none⟩ (Aa Ab b)).setCell ⟨g,k*3+2,none⟩ (Aa Ab e)) B (some ⟨g,0,none⟩) n c (d.setIfInBounds k (a,b,e)).toList:=by
 have m:d.toList.length=n:=h.1;refine⟨by simpa using m,?_⟩;have h1:=((h.2.stored (k*3) (Aa Ab a)).1.stored (k*3+1) (Aa Ab b)).1.stored (k*3+2) (Aa Ab e);have p:(d.setIfInBounds k (a,b,e)).toList.flatMap pc=(((d.toList.flatMap pc).set (k*3) (Aa Ab a)).set (k*3+1) (Aa Ab b)).set (k*3+2) (Aa Ab e):=by
  apply List.ext_getElem?;intro j;simp only [List.getElem?_set,List.length_set,Cm Kd,m,Array.toList_setIfInBounds];by_cases s:j<n*3
  ·have i:j/3<n:=Nat.div_lt_of_lt_mul (by omega);have f:j % 3<3:=Nat.mod_lt _ (by omega);have l:j=j/3*3+j % 3:=by omega
   rw [l];generalize j/3=q at i;generalize j % 3=r at f;rw [Ip Kd _ q r (by rw [List.length_set];omega) f,Ip Kd _ q r (by omega) f,List.getElem_set];by_cases o:k=q
   ·subst o;rw [if_pos rfl];have:r=0∨r=1∨r=2:=by omega
    rcases this with rfl|rfl|rfl
    ·simp [pc];omega
    ·simp [pc];omega
    ·simp [pc];omega
   ·rw [if_neg o,if_neg (by omega),if_neg (by omega),if_neg (by omega)]
  ·rw [Bg (by rw [Cm Kd,List.length_set];omega),if_neg (by omega),if_neg (by omega),if_neg (by omega),Bg (by rw [Cm Kd];omega)]
 rw [p];exact h1.1
end
section
open Go.RowKit Go.Acc Go.Lib Go.Sort
theorem Vm{o:Nat}(h:Ki w B (some ⟨g,0,none⟩) n c d.toList)(hk:k<n)(hx:d[k]! =(a,b,e))(ho:k*3=o):
  w.cell? ⟨g,o,none⟩=some (Aa Ab a)∧w.cell? ⟨g,o+1,none⟩=some (Aa Ab b)∧w.cell? ⟨g,o+2,none⟩=some (Aa Ab e):=by
 subst ho;exact(T7 h hk hx).1
theorem Abd(h:Ki w B (some ⟨g,0,none⟩) n c d.toList)(k:Nat)(hk:k<n):
  (w.frozen? ⟨g,k*3,none⟩=false∧w.frozen? ⟨g,k*3+1,none⟩=false∧w.frozen? ⟨g,k*3+2,none⟩=false):=by
 obtain⟨⟨a,b,e⟩,hx⟩:∃x,d[k]! =x:=⟨_,rfl⟩;exact(T7 h hk hx).2
theorem Sg(d:Array P3)(h:∀j,j<d.size→keeps d j=true):compactUpTo d d.size=d.toList:=by
 rw [compactUpTo_all d d.size h,range_map_get]
theorem iE(d:Array P3)(h:d.size<2):compactUpTo d d.size=d.toList:=by
 rw [compactUpTo_all d d.size (fun j hj=>keeps_lt_one d j (by omega)),range_map_get]
theorem bT(B g n c:Nat)(d:Array P3)(w:World)(h:Ki w B (some ⟨g,0,none⟩) n c d.toList)(hn:n≤2147483648):
  Calls Ad 84 #[.slice (some ⟨g,0,none⟩) n c] w fun e w'=>∃k,k=(compactUpTo d d.size).length∧e= .returned (.slice (some ⟨g,0,none⟩) k c)∧Ki w' B (some ⟨g,0,none⟩) k c (compactUpTo d d.size)∧Fr (fun k=>k=g) w w':=by
 have v:d.size=n:=by rw [←Array.length_toList];exact h.1
 have z:=h.cap.1;by_cases h2:n<2
 ·have aj:decide ((n:Int)<2)=true:=decide_eq_true (by omega);have Y:=Hd h;have t:=Hd v;have HC:=Hd (iE d (by omega));clear h v;go_enter func84,ntmps84;go_wp2;go_ret;refine⟨n,?_,rfl,?_,Fr.refl _ _⟩
  ·rw [HC.o,Array.length_toList,t.o]
  ·rw [HC.o];exact Y.o
 ·have aj:decide ((n:Int)<2)=false:=decide_eq_false (by omega);have Y:=Hd h;have t:=Hd v;clear h v;go_enter func84,ntmps84;go_wp2;go_loopg [3] n (fun gg s3 wr=>∃k:Nat,1≤k∧k≤n∧n-k≤gg∧s3= Aa Ab k∧Ki wr B (some ⟨g,0,none⟩) n c d.toList∧Fr (fun k=>k=g) w wr∧∀j,j<k→keeps d j=true)
  case atStart=>exact⟨1,Ae _,by omega,by omega,rfl,Y.o,Fr.refl _ _,keeps_lt_one d⟩
  case round=>
   obtain⟨k,Q,hk,hg,rfl,F,E,l⟩:=hrel;obtain⟨j,rfl⟩:∃j,k=j+1:=⟨k-1,by omega⟩;by_cases T:j+1<n
   ·obtain⟨⟨x0,x1,x2⟩,hx⟩:∃x,d[j+1]! =x:=⟨_,rfl⟩;obtain⟨⟨y0,y1,y2⟩,hy⟩:∃x,d[j]! =x:=⟨_,rfl⟩;have A:=Hd l;have HX:=Hd hx;have HY:=Hd hy;have p:=Hd F;have u:=Hd E;clear l hx hy F E Y;obtain⟨⟨a0,a1,a2⟩,_⟩:=T7 p.o T HX.o;obtain⟨⟨b0,b1,b2⟩,_⟩:=T7 p.o (show j<n by omega) HY.o;have V:IntKind.i64.wrap (j:Int)=(j:Int):=Ao _ (by omega);have M:0≤(j:Int)+1:=by omega
    have N:(j:Int)+1<(n:Int):=by omega
    have O:((j:Int)+1).toNat=j+1:=by omega
    have al:j<n:=by omega
    have X:IntKind.i64.wrap ((j:Int)+1+1)=(j:Int)+1+1:=Ao _ (by omega);by_cases s:(x0,x1,x2)=(y0,y1,y2)
    ·have y:=fD (x0,x1,x2) (y0,y1,y2) true (decide_eq_true s);have Z:=Hd s;have ht:=tail_run g n c (j+1) T z;simp only [Int.natCast_add,Int.cast_ofNat_Int] at ht;clear s;go_wp2_with fail;go_quiet (fail);go_wp2_with fail;have a:=Hd (p.o.pure (below_drewN (Af _ _) nq));have f:=Hd (u.o.drewN nq);have q:CompInv d (j+1+1) (j+1) d:=CompInv.start A.o (keeps_neg (by omega) (by rw [Nat.add_sub_cancel,HX.o,HY.o];exact Z.o));have b:=Hd q;generalize wr.drewN nq=wa at a f⊢;clear a0 a1 a2 b0 b1 b2 q y V M N O X;go_loopg [3,5] n (fun gg s3 s5 wr=>∃(m k:Nat) (dk:Array P3),j+1+(m+1)≤n∧n-m≤gg∧s3= Aa Ab k∧s5= Aa Ab ((m:Int)+1)∧CompInv d (j+1+(m+1)) k dk∧Ki wr B (some ⟨g,0,none⟩) n c dk.toList∧Fr (fun k=>k=g) w wr)
     case atStart=>exact⟨0,j+1,d,by omega,by omega,by go_num,by go_num,b.o,a.o,f.o⟩
     case round=>
      clear b a f;obtain⟨m,k,dk,hm,bl,rfl,rfl,q,F,E⟩:=hrel;have a:=Hd F;have f:=Hd E;have bd:=q.lt;have b:=Hd q;clear F E q;by_cases U:j+1+(m+1)<n
      ·obtain⟨⟨H,I,J⟩,hp⟩:∃x,d[j+1+(m+1)]! =x:=⟨_,rfl⟩;obtain⟨⟨q0,q1,q2⟩,hq⟩:∃x,d[j+1+m]! =x:=⟨_,rfl⟩;obtain⟨a0,a1,a2⟩:=Vm a.o U ((b.o.high _ (by omega)).trans hp) (show(j+1+(m+1))*3=(j+1)*3+(m+1)*3 by omega);obtain⟨b0,b1,b2⟩:=Vm a.o (show j+1+m<n by omega) ((b.o.high _ (by omega)).trans hq) (show(j+1+m)*3=(j+1)*3+m*3 by omega);obtain⟨⟨r0,r1,r2⟩,hr⟩:∃x,dk[k]! =x:=⟨_,rfl⟩;obtain⟨c0,c1,c2⟩:=Vm a.o (show k<n by omega) hr rfl;obtain⟨z0,z1,z2⟩:=Abd a.o k (by omega);clear hr;have HP:=Hd hp;have HQ:=Hd hq;clear hp hq;have V:IntKind.i64.wrap (m:Int)=(m:Int):=Ao _ (by omega);have M:0≤(m:Int)+1:=by omega
       have N:(m:Int)+1<((n-(j+1):Nat):Int):=by omega
       have O:((m:Int)+1).toNat=m+1:=by omega
       have al:m<n-(j+1):=by omega
       have Q:k<n:=by omega
       have X:IntKind.i64.wrap ((m:Int)+1+1)=(m:Int)+1+1:=Ao _ (by omega);have bp:IntKind.i64.wrap ((k:Int)+1)=(k:Int)+1:=Ao _ (by omega);by_cases r:(H,I,J)=(q0,q1,q2)
       ·have y:=Vo (H,I,J) (q0,q1,q2) false (by rw [decide_eq_true r];rfl);have D:=Hd r;clear r;go_wp2_with fail;go_quiet (fail);go_wp2_with fail;go_roundg (n-(m+1))
        case measure=>omega
        case rel=>
         refine⟨m+1,k,dk,by omega,by omega,by go_num,by go_num,?_,a.o.pure (below_drewN (Af _ _) _),f.o.drewN _⟩;exact b.o.skip (keeps_neg (by omega) (by rw [HP.o,show j+1+(m+1)-1=j+1+m by omega,HQ.o];exact D.o))
       ·have y:=Vo (H,I,J) (q0,q1,q2) true (by rw [decide_eq_false r];rfl);have D:=Hd r;clear r;go_wp2_with fail;go_quiet (fail);go_wp2_with fail;have HS:=Hd (xH (a.o.pure (below_drewN (Af _ _) nq)) Q H I J);have hf:Fr (fun k=>k=g) w ((((wr.drewN nq).setCell ⟨g,k*3,none⟩ (Aa Ab H)).setCell ⟨g,k*3+1,none⟩ (Aa Ab I)).setCell ⟨g,k*3+2,none⟩ (Aa Ab J)):=(((f.o.drewN nq).setCell (fun _=>rfl) _).setCell (fun _=>rfl) _).setCell (fun _=>rfl) _;have ab:=Hd hf;clear hf;go_roundg (n-(m+1))
        case measure=>omega
        case rel=>
         refine⟨m+1,k+1,dk.setIfInBounds k (H,I,J),by omega,by omega,by go_num,by go_num,?_,HS.o,ab.o⟩;have:=b.o.keep (by rw [t.o];omega) (keeps_pos (by rw [HP.o,show j+1+(m+1)-1=j+1+m by omega,HQ.o];exact D.o));rw [HP.o] at this;exact this
      ·have G:j+1+(m+1)=n:=by omega
       have R:k<n:=by omega
       have bo:=tail_run g n c k R z;have bm:=head_run g n c k (by omega);have hz:∀W:World,(zeroValue 46).run Ad W= .ok (.agg #[Aa Ab 0,Aa Ab 0,Aa Ab 0]) W:=by intro W;go_simp
       obtain⟨w',bk,L,K⟩:=aH (P:=Ad) (sz:=3) 42 0 (.agg #[Aa Ab 0,Aa Ab 0,Aa Ab 0]) underlying42 hz rfl (by decide) Kd a.o k (c-k) R;have af:=Hd L;have aa:=Hd (f.o.trans K (fun _ _ h=>h));have S:(compactUpTo d d.size).length=k:=by rw [t.o,←G];exact b.o.len
       have C:compactUpTo d d.size=dk.toList.take k:=by
        have bn:dk.size=n:=by rw [b.o.size,t.o]
        apply List.ext_getElem?;intro i;by_cases hi:i<k
        ·have h1:=b.o.low i hi;rw [G,←t.o] at h1;rw [h1,List.getElem?_take_of_lt hi,getElem!_pos dk i (by omega)];simp
        ·rw [Bg (by omega),Bg (by rw [Az];omega)]
       have HL:=Hd C;have ad:=Hd S;clear L K hz S C G;go_wp2_with fail;go_ret;refine⟨k,ad.o.symm,rfl,?_,aa.o⟩;rw [HL.o];exact af.o
    ·have y:=fD (x0,x1,x2) (y0,y1,y2) false (decide_eq_false s);have ae:=Hd s;clear s;go_wp2_with fail;go_quiet (fail);go_wp2_with fail;go_roundg (n-(j+2))
     case measure=>omega
     case rel=>
      refine⟨j+2,by omega,by omega,by omega,by go_num,p.o.pure (below_drewN (Af _ _) _),u.o.drewN _,?_⟩;intro i hi;by_cases e:i=j+1
      ·subst e;exact keeps_pos (by rw [Nat.add_sub_cancel,HX.o,HY.o];exact ae.o)
      ·exact A.o i (by omega)
   ·obtain rfl:n=j+1:=by omega
    have HA:=Hd l;clear l;have p:=Hd F;have u:=Hd E;clear F E;go_wp2_with fail;go_ret;refine⟨j+1,?_,rfl,?_,u.o⟩
    ·rw [Sg d (by rw [t.o];exact HA.o),Array.length_toList,t.o]
    ·rw [Sg d (by rw [t.o];exact HA.o)];exact p.o
theorem Q8(x:P3):¬Jp x x:=by unfold Jp;omega
theorem S9{x y z:P3}(h1:Jp x y)(h2:Jp y z):Jp x z:=by unfold Jp at *;omega
theorem S8(x y:P3):Jp x y∨x=y∨Jp y x:=by
 obtain⟨a,b,c⟩:=x;obtain⟨a',b',c'⟩:=y;unfold Jp;simp only [Prod.mk.injEq];omega
def Jy(x:P3):List P3→List P3
 | []=>[x]
 |y::l=>if Jp y x then y::Jy x l else if y=x then y::l else x::y::l
def Js(l:List P3):List P3:=l.foldl (fun m x=>Jy x m) []
abbrev J3(l:List P3):Prop:=l.Pairwise Jp
theorem Vh(x y:P3):∀l,y∈Jy x l↔y=x∨y∈l
 | []=>by simp [Jy]
 |z::l=>by
  unfold Jy;split
  ·rw [List.mem_cons,Vh x y l,List.mem_cons];constructor
   ·rintro(h|h|h)
    ·exact .inr (.inl h)
    ·exact .inl h
    ·exact .inr (.inr h)
   ·rintro(h|h|h)
    ·exact .inr (.inl h)
    ·exact .inl h
    ·exact .inr (.inr h)
  ·split
   ·rename_i h;subst h;simp
   ·simp
theorem Ut(x:P3):∀l,J3 l→J3 (Jy x l)
 | [],_=>by simp [Jy]
 |y::l,h=>by
  have b:=List.pairwise_cons.1 h;unfold Jy;split
  ·rename_i hyx;refine List.pairwise_cons.2 ⟨fun z hz=>?_,Ut x l b.2⟩;rcases(Vh x z l).1 hz with rfl|hz
   ·exact hyx
   ·exact b.1 z hz
  ·split
   ·exact h
   ·rename_i h1 h2;have a:Jp x y:=by
     rcases S8 x y with h|h|h
     ·exact h
     ·exact absurd h.symm h2
     ·exact absurd h h1
    refine List.pairwise_cons.2 ⟨fun z hz=>?_,h⟩;rcases List.mem_cons.1 hz with rfl|hz
    ·exact a
    ·exact S9 a (b.1 z hz)
theorem Us:∀(l m:List P3),J3 m→J3 (l.foldl (fun m x=>Jy x m) m)
 | [],_,h=>h
 |x::l,m,h=>Us l (Jy x m) (Ut x m h)
theorem eT(y:P3):∀(l m:List P3),y∈l.foldl (fun m x=>Jy x m) m↔y∈m∨y∈l
 | [],m=>by simp
 |x::l,m=>by
  rw [List.foldl_cons,eT y l,Vh,List.mem_cons];constructor
  ·rintro((h|h)|h)
   ·exact .inr (.inl h)
   ·exact .inl h
   ·exact .inr (.inr h)
  ·rintro(h|h|h)
   ·exact .inl (.inr h)
   ·exact .inl (.inl h)
   ·exact .inr h
theorem R0(l:List P3):J3 (Js l):=Us l [] List.Pairwise.nil
theorem Xc(y:P3)(l:List P3):y∈Js l↔y∈l:=by rw [Js,eT];simp
theorem Ro:∀(l m:List P3),J3 l→J3 m→(∀x,x∈l↔x∈m)→l=m
 | [],[],_,_,_=>rfl
 | [],y::m,_,_,h=>by have:=(h y).2 (by simp);simp at this
 |x::l,[],_,_,h=>by have:=(h x).1 (by simp);simp at this
 |x::l,y::m,hl,hm,h=>by
  have b:=List.pairwise_cons.1 hl;have c:=List.pairwise_cons.1 hm;have f:x=y:=by
   rcases List.mem_cons.1 ((h x).1 (by simp)) with e|e
   ·exact e
   ·rcases List.mem_cons.1 ((h y).2 (by simp)) with d|d
    ·exact d.symm
    ·exact absurd (S9 (b.1 y d) (c.1 x e)) (Q8 x)
  subst f
  congr 1
  refine Ro l m b.2 c.2 fun z=>?_
  have g:=h z;rw [List.mem_cons,List.mem_cons] at g;constructor
  ·intro a;rcases g.1 (.inr a) with e|e
   ·subst e;exact absurd (b.1 z a) (Q8 z)
   ·exact e
  ·intro a;rcases g.2 (.inr a) with e|e
   ·subst e;exact absurd (c.1 z a) (Q8 z)
   ·exact e
theorem Ps(d:Array P3):∀m,m≤d.size→∀x,x∈compactUpTo d m↔∃j,j<m∧d[j]! =x
 |0,_,x=>by simp [compactUpTo]
 |m+1,hm,x=>by
  rw [compactUpTo_succ,List.mem_append,Ps d m (by omega) x];constructor
  ·rintro(⟨j,f,e⟩|h)
   ·exact⟨j,by omega,e⟩
   ·split at h
    ·exact⟨m,by omega,(List.mem_singleton.1 h).symm⟩
    ·cases h
  ·rintro⟨j,f,e⟩;by_cases a:j=m
   ·subst a;by_cases b:keeps d j=true
    ·right;rw [if_pos b];simp [e]
    ·left;have h0:j≠0:=by rintro rfl;exact b (by simp [keeps])
     refine⟨j-1,by omega,?_⟩;by_cases c:d[j]! =d[j-1]!
     ·rw [←c,e]
     ·exact absurd (keeps_pos c) b
   ·exact .inl ⟨j,by omega,e⟩
theorem Qf(d:Array P3)(hs:∀i j,i<j→j<d.size→¬Jp d[j]! d[i]!):∀m,m≤d.size→J3 (compactUpTo d m)
 |0,_=>by simp [compactUpTo]
 |m+1,hm=>by
  rw [compactUpTo_succ];refine List.pairwise_append.2 ⟨Qf d hs m (by omega),by split <;>simp,?_⟩;intro x b y hy;split at hy
  ·rename_i hk;obtain rfl:=List.mem_singleton.1 hy;obtain⟨j,c,rfl⟩:=(Ps d m (by omega) x).1 b;have a:d[m]! ≠d[m-1]! :=by
    unfold keeps at hk;rcases of_decide_eq_true hk with h|h
    ·omega
    ·exact h
   have h1:=hs (m-1) m (by omega) (by omega);have h2:Jp d[m-1]! d[m]! :=by
    rcases S8 d[m-1]! d[m]! with h|h|h
    ·exact h
    ·exact absurd h.symm a
    ·exact absurd h h1
   by_cases e:j=m-1
   ·subst e;exact h2
   ·have h3:=hs j (m-1) (by omega) (by omega);rcases S8 d[j]! d[m-1]! with h|h|h
    ·exact S9 h h2
    ·rw [h];exact h2
    ·exact absurd h h3
  ·cases hy
theorem X5(l m:List P3)(hp:m.Perm l)(hr:pK m):compactUpTo m.toArray m.toArray.size=Js l:=by
 refine Ro _ _ (Qf _ ?_ _ (Ae _)) (R0 l) fun x=>?_
 ·intro i j c b;have a:j<m.length:=by simpa using b
  have:=hr i j (by omega) a c;rw [getElem!_pos m.toArray j (by simpa using a),getElem!_pos m.toArray i (by simp;omega)];simpa using this
 ·rw [Ps _ _ (Ae _),Xc,←hp.mem_iff,List.mem_iff_getElem];constructor
  ·rintro⟨j,b,e⟩;have a:j<m.length:=by simpa using b
   rw [getElem!_pos m.toArray j b] at e;exact⟨j,a,by simpa using e⟩
  ·rintro⟨j,b,e⟩;refine⟨j,by simpa using b,?_⟩;rw [getElem!_pos m.toArray j (by simpa using b)];simpa using e
end
section
open Go.RowKit Go.Acc
def Ad6(n:Nat)(x:P3):Prop:=0≤x.1∧x.1<x.2.1∧x.2.1≤n∧1≤x.2.2∧x.2.2≤14
def Fz(n:Nat)(s s':Bw):Prop:=∃t,s'.o=s.o++t∧∀x∈t,Ad6 n x
theorem Fz.refl(n:Nat)(s:Bw):Fz n s s:=⟨[],by simp,by simp⟩
theorem Fz.trans{s' s'':Bw}(h:Fz n s s')(h':Fz n s' s''):Fz n s s'':=by
 obtain⟨t,e,g⟩:=h;obtain⟨t',e',g'⟩:=h';refine⟨t++t',by rw [e',e,Am],fun x hx=>?_⟩;rcases List.mem_append.1 hx with hx|hx
 ·exact g x hx
 ·exact g' x hx
theorem Hc(s:Bw){c:Int}(ha:0≤a)(hb:b≤n)(hc:1≤c∧c≤14):Fz n s (s.tell a b c):=by
 unfold Bw.tell;split
 ·rename_i h;exact⟨[(a,b,c)],rfl,fun x hx=>by rw [List.mem_singleton.1 hx];exact⟨ha,h,hb,hc.1,hc.2⟩⟩
 ·exact Fz.refl n s
def Py(l:List UInt8)(go:Rq→Bw→Bw×Int):Prop:=∀r s,Pk l.length r→Fz l.length s (go r s).1
theorem nH{ts:List Nat}(h:D7 l p q t v ts=0):Co l.length p q t v=0∧G3 ts t=true∧Ch l p q t v=0∧(if t=4 then Lu l (Cg l p q t v).toNat else G2 l (Cg l p q t v).toNat v.toNat (if t=5 then 1 else 0))=0:=by
 unfold D7 at h;split at h
 ·rename_i h1;exact absurd h h1
 ·rename_i h1;split at h
  ·cases h
  ·rename_i h2;split at h
   ·rename_i h3;exact absurd h h3
   ·rename_i h3;refine⟨by simpa using h1,by simpa using h2,by simpa using h3,?_⟩;split at h
    ·rename_i h4;rw [if_pos h4];exact h
    ·rename_i h4;rw [if_neg h4];exact h
theorem uD(h:D7 l p q t v [4,5,25]=0):
  0≤Dj l p q t v [4,5,25]∧Dj l p q t v [4,5,25]+(Fc l p q t v [4,5,25]).length≤l.length∧(t=4∨t=5→Dj l p q t v [4,5,25]+(Fc l p q t v [4,5,25]).length+1≤l.length)∧
  (t≠4→v≤Dj l p q t v [4,5,25])∧1≤v∧Dj l p q t v [4,5,25]=Cg l p q t v:=by
 obtain⟨h1,h2,i,j,f⟩:=Wn h;obtain⟨_,_,h3,h4⟩:=nH h;have g:=(Xb f).2;have ht:=Yv h3;have c:Dj l p q t v [4,5,25]=Cg l p q t v:=by unfold Dj;rw [if_pos h]
 have b:Fc l p q t v [4,5,25]=if t=4 then Om l (Cg l p q t v).toNat else cntL l (Cg l p q t v).toNat v.toNat:=by unfold Fc;rw [if_pos h]
 refine⟨h1,h2,?_,?_,g.1,c⟩
 ·intro d;by_cases a:t=4
  ·rw [if_pos a] at h4 b;unfold Lu at h4;split at h4
   ·rename_i hz;rw [c,b];unfold Om;rw [Az,List.length_drop];have m:=(aB (l:=l) (k:=(Cg l p q t v).toNat) (by omega)).1;omega
   ·cases h4
  ·rw [if_neg a] at h4 b;have e:t=5:=by omega
   rw [if_pos e] at h4;unfold G2 at h4;split at h4
   ·cases h4
   ·split at h4
    ·cases h4
    ·split at h4
     ·cases h4
     ·rw [c,b];unfold cntL;rw [Az,List.length_drop];omega
 ·intro a;rw [if_neg a] at h4;unfold G2 at h4;split at h4
  ·cases h4
  ·split at h4
   ·cases h4
   ·rw [c];omega
theorem lZ(h:D8 l p q t v=0):0≤Gu l p q t v∧Gu l p q t v+G7 l p q t v≤l.length∧0≤G7 l p q t v:=by
 unfold Gu G7;rw [if_pos h,if_pos h];rcases Td l p q t v with⟨b,e⟩|⟨b,c⟩
 ·rw [e] at h;exact absurd h b
 have f:=Xb b;obtain⟨⟨h0,h1,h2,h3⟩,i,j⟩:=f;simp only at h0 h1 h2 h3;rcases c with⟨_,e⟩|⟨_,a,_⟩|⟨_,a,⟨g,e⟩|⟨_,_,e⟩|⟨_,_,_,e⟩|⟨_,_,d,_⟩⟩
 ·rw [e] at h;cases h
 ·rw [if_pos a,if_pos a];omega
 ·rw [e] at h;exact absurd h g
 ·rw [e] at h;cases h
 ·rw [e] at h;cases h
 ·rw [if_neg (by rw [a];decide),if_neg (by rw [a];decide)];have:=Eh.1 d;omega
section
variable {l:List UInt8} {go:Rq→Bw→Bw×Int} (r:Rq)
theorem Aby(s:Bw):Fz l.length s (Ey l r s).1:=by
 unfold Ey;split
 ·exact Fz.refl _ s
 ·rename_i h;obtain⟨h1,h2,h3,a,b,_⟩:=uD (Decidable.of_not_not h);split
  ·rename_i ht;exact Hc s h1 (h3 (.inl ht)) (by omega)
  ·rename_i ht;split
   ·rename_i ht5;exact(Hc s (by have:=a ht;omega) (by omega) (by omega)).trans (Hc _ h1 (h3 (.inr ht5)) (by omega))
   ·exact(Hc s (by have:=a ht;omega) (by omega) (by omega)).trans (Hc _ h1 h2 (by omega))
theorem uV(s:Bw):Fz l.length s (E7 l r s).1:=by
 unfold E7;split
 ·rename_i h;obtain⟨h1,h2,_⟩:=lZ h;refine Hc s h1 h2 ?_;split <;>omega
 ·exact Fz.refl _ s
theorem Aax(hgo:Py l go)(s:Bw):Fz l.length s (Hz l go r s).1:=by
 unfold Hz;split
 ·exact Fz.refl _ s
 ·rename_i h;obtain⟨_,_,h3,h4,h5,_⟩:=zI (Decidable.of_not_not h);have h6:=hgo (En l r) s h3;split
  ·exact h6
  ·exact h6.trans (Hc _ (by omega) (by omega) (by omega))
theorem Adz(hl:C2 l r.p r.q r.t r.v=0)(i:Nat)(hi:i<lsLen l r.p r.q r.t r.v)(s:Bw):Fz l.length s (F8 l r i s):=by
 unfold F8;split
 ·rename_i ht;obtain⟨h1,h2,_,c⟩:=P6 hl;have a:tgs r.t=1:=by unfold tgs;rw [if_pos ht]
  rw [a,Nat.mul_add,Nat.mul_one] at c;have b:((lsLen l r.p r.q r.t r.v*r.v.toNat:Nat):Int)=lsLen l r.p r.q r.t r.v*r.v:=by
   rw [Int.natCast_mul,Int.toNat_of_nonneg (by omega)]
  rw [←b];generalize lsLen l r.p r.q r.t r.v*r.v.toNat=X at*;exact Hc s (by omega) (by omega) (by omega)
 ·exact Fz.refl _ s
theorem Ade(hl:C2 l r.p r.q r.t r.v=0)(s:Bw):Fz l.length s (Jk l r s):=by
 unfold Jk;split
 ·rename_i hlt;obtain⟨h1,h2,h3,b⟩:=P6 hl;have a:1≤aheadT r.t:=by
   rcases Nat.eq_zero_or_pos (aheadT r.t) with h|h
   ·rw [h] at h3;omega
   ·exact h
  have c:1*r.v.toNat≤aheadT r.t*r.v.toNat:=Nat.mul_le_mul_right _ a;generalize aheadT r.t*r.v.toNat=X at*;generalize lsLen l r.p r.q r.t r.v*(r.v.toNat+tgs r.t)=Y at*;exact Hc s (by omega) (by omega) (by omega)
 ·exact Fz.refl _ s
theorem cW(hgo:Py l go)(hl:C2 l r.p r.q r.t r.v=0):∀(k i:Nat) (s:Bw),i+k≤lsLen l r.p r.q r.t r.v→Fz l.length s (D0 l go r k i s).1
 |0,i,s,_=>Fz.refl _ s
 |k+1,i,s,hk=>by
  unfold D0;have ht:=Adz r hl i (by omega) s;split
  ·exact ht
  ·rename_i ha;have a:=hgo (Ga l r i) (F8 l r i s) (mA hl (by omega) (Decidable.of_not_not ha));split
   ·exact ht.trans a
   ·exact(ht.trans a).trans (cW hgo hl k (i+1) _ (by omega))
theorem jX(hgo:Py l go)(s:Bw):Fz l.length s (Em l go r s).1:=by
 unfold Em;split
 ·exact Aax r hgo s
 ·exact Fz.refl _ s
theorem Aaz(hgo:Py l go)(s:Bw):Fz l.length s (Gl l go r s).1:=by
 unfold Gl;split
 ·exact Fz.refl _ s
 ·rename_i h;have hl:=Decidable.of_not_not h;split
  ·exact jX r hgo s
  ·exact((jX r hgo s).trans (Ade r hl _)).trans (cW r hgo hl _ _ _ (by omega))
theorem Aah(hgo:Py l go)(s:Bw):Fz l.length s (Ee l go r s).1:=by
 unfold Ee;split
 ·exact Aby r s
 ·split
  ·exact uV r s
  ·exact Aaz r hgo s
end
theorem vR(t:Int):1≤Er t∧Er t≤14:=by unfold Er;(repeat' split) <;>omega
theorem yD(r:Rq)(s:Bw)(hr:Pk l.length r):Fz l.length s (C7 r s):=by
 obtain⟨h0,h1,h2,h3⟩:=hr;exact(show Fz l.length s s.burn from⟨[],by simp [Bw.burn],by simp⟩).trans (Hc _ h0 h3 (vR _))
theorem jS(l:List UInt8):∀d,Py l (Ct l d)
 |0,r,s,_=>Fz.refl _ s
 |d+1,r,s,hr=>by
  unfold Ct;split
  ·exact Fz.refl _ s
  ·have hs:=yD r s hr;split
   ·exact hs
   ·split
    ·exact hs
    ·exact(hs.trans (show Fz l.length (C7 r s) ((C7 r s).see (F7 l r)) from⟨[],by simp [Bw.see],by simp⟩)).trans (Aah r (jS l d) _)
end
end Go.Proofs.YtejpbijeifjdeaaGreat
