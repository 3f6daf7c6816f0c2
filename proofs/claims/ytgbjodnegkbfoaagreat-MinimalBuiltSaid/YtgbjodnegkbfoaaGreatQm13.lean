/- Parts of the proof. -/
import Derived.Test.YtgbjodnegkbfoaaGreatQm12
import Derived.ScopeJumps
import Derived.WalkMore
set_option maxHeartbeats 2000000
set_option maxRecDepth 100000
open Go.Value renaming int→Aa
open Go.IntKind renaming i64→Ab
open List renaming getElem?_eq_getElem→Asq,length_append→Ass,append_assoc→Asx,getD_eq_getElem?_getD→As0
open Nat renaming le_succ→Asr
namespace Go.Proofs.YtgbjodnegkbfoaaGreat
open Go.RowKit Go.Acc
def kyU(l:List UInt8)(p q t v:Int):Nat:=loadU l ((lsFrom l p q t v:Int)+v) v
def Gh(l:List UInt8)(p q t v:Int):Int:=
 if Bj l.length p q t v≠0 then Bj l.length p q t v else if t≠9 then 60 else if Bs l p q t v≠0 then Bs l p q t v else if Av (kyU l p q t v:Int)=false then 212 else 0
def Et(l:List UInt8)(p q t v:Int):Int:=if Gh l p q t v=0 then lsFrom l p q t v else 0
def Eu(l:List UInt8)(p q t v:Int):Int:=if Gh l p q t v=0 then v else 0
def J0(l:List UInt8)(p q t v:Int):Int:=if Gh l p q t v=0 then 14 else 0
def Ev(l:List UInt8)(p q t v:Int):Int:=if Gh l p q t v=0 then kyU l p q t v else 0
def KyW(w:World)(l:List UInt8)(p q t v:Int)(e:Ending)(w':World):Prop:=
 e= .returned (.tuple #[.agg #[Aa Ab (Et l p q t v),Aa Ab (Eu l p q t v),Aa Ab (J0 l p q t v),Aa Ab (Ev l p q t v)],Aa Ab (Gh l p q t v)])∧Below w.heap.size w w'
theorem Qq{w w':World}{l:List UInt8}{p q t v er:Int}(h:Gh l p q t v=er)(hne:er≠0)(hb:Below w.heap.size w w'):KyW w l p q t v (.returned (.tuple #[.agg #[Aa Ab 0,Aa Ab 0,Aa Ab 0,Aa Ab 0],Aa Ab er])) w':=by
 unfold KyW Et Eu J0 Ev;rw [h,if_neg hne,if_neg hne,if_neg hne,if_neg hne];exact⟨rfl,hb⟩
theorem Rn{w w':World}{l:List UInt8}{p q t v a b g:Int}(h:Gh l p q t v=0)(h1:(lsFrom l p q t v:Int)=a)(h2:v=b)(h3:(kyU l p q t v:Int)=g)(hb:Below w.heap.size w w'):KyW w l p q t v (.returned (.tuple #[.agg #[Aa Ab a,Aa Ab b,Aa Ab 14,Aa Ab g],Aa Ab 0])) w':=by
 unfold KyW Et Eu J0 Ev;rw [h,if_pos rfl,if_pos rfl,if_pos rfl,if_pos rfl,h1,h3,←h2];exact⟨rfl,hb⟩
theorem Aat(l:List UInt8)(p q t v:Int):(Bj l.length p q t v≠0∧Gh l p q t v=Bj l.length p q t v)∨(Bj l.length p q t v=0∧((t≠9∧Gh l p q t v=60)∨(t=9∧
  ((Bs l p q t v≠0∧Gh l p q t v=Bs l p q t v)∨(Bs l p q t v=0∧((Av (kyU l p q t v:Int)=false∧Gh l p q t v=212)∨(Av (kyU l p q t v:Int)=true∧Gh l p q t v=0))))))):=by
 unfold Gh;by_cases h1:Bj l.length p q t v=0
 ·refine .inr ⟨h1,?_⟩;rw [if_neg (by simpa using h1)];by_cases h2:t=9
  ·refine .inr ⟨h2,?_⟩;rw [if_neg (by simpa using h2)];by_cases h3:Bs l p q t v=0
   ·refine .inr ⟨h3,?_⟩;rw [if_neg (by simpa using h3)];cases h4:Av (kyU l p q t v:Int) with
    |false=>exact .inl ⟨rfl,if_pos rfl⟩
    |true=>exact .inr ⟨rfl,if_neg (by decide)⟩
   ·rw [if_pos h3];exact .inl ⟨h3,rfl⟩
  ·rw [if_pos h2];exact .inl ⟨h2,rfl⟩
 ·rw [if_pos h1];exact .inl ⟨h1,rfl⟩
theorem Aor(l:List UInt8)(a x:Int):(loadU l a x:Int)<18446744073709551616:=by
 unfold loadU;split
 ·rename_i h;have h1:=By.1 h.1;have hl:=Oq ((l.drop a.toNat).take x.toNat);have h8:((l.drop a.toNat).take x.toNat).length≤8:=by
   have:=List.length_take_le x.toNat (l.drop a.toNat);omega
  have:=Nat.pow_le_pow_right (n:=2) (by omega) (Nat.mul_le_mul_left 8 h8);omega
 ·omega
theorem Af3(A:Option Addr)(n c:Nat)(p q t v:Int)(l:List UInt8)(w:World)(h:Cd w A n l)(hc:n≤c)(hn:n≤1099511627776):
  Calls Tryz.prog 93 #[.slice A n c,.agg #[Aa Ab p,Aa Ab q,Aa Ab t,Aa Ab v]] w (KyW w l p q t v):=by
 have hlen:=h.1;subst hlen;have HL:=Hd ((h.alloc (.cells #[Aa Ab p,Aa Ab q,Aa Ab t,Aa Ab v] 75)).alloc (.cells #[Aa Ab 0,Aa Ab 0,Aa Ab 0,Aa Ab 0] 75));have HB:=Hd (((Below.refl w.heap.size w).alloc (Nat.le_refl _) (.cells #[Aa Ab p,Aa Ab q,Aa Ab t,Aa Ab v] 75)).alloc (by simp) (.cells #[Aa Ab 0,Aa Ab 0,Aa Ab 0,Aa Ab 0] 75));have HX:=Hd ((Ag.new w 75 #[Aa Ab p,Aa Ab q,Aa Ab t,Aa Ab v]).alloc (.cells #[Aa Ab 0,Aa Ab 0,Aa Ab 0,Aa Ab 0] 75));have HR:=Hd (Ag.new_ (w:=w.alloc (.cells #[Aa Ab p,Aa Ab q,Aa Ab t,Aa Ab v] 75)) (g:=w.heap.size+1) (by simp) 75 #[Aa Ab 0,Aa Ab 0,Aa Ab 0,Aa Ab 0]);have hcs:=Aat l p q t v;clear h;go_enter Tryz.func93,Tryz.ntmps93;go_wp2_with fail;go_at_call 123;refine(Mk A _ c p q t v _ (by omega)).mono ?_;generalize (w.alloc (.cells #[Aa Ab p,Aa Ab q,Aa Ab t,Aa Ab v] 75)).alloc (.cells #[Aa Ab 0,Aa Ab 0,Aa Ab 0,Aa Ab 0] 75)=wB at HL HB HX HR⊢;have x0:=Al HX.o;have x1:=Ak HX.o;have x2:=Aj HX.o;have x3:=Am HX.o;rintro e w1 ⟨rfl,hb⟩;clear x0 x1 x2 x3;replace HB:=Hd (Ad HB.o hb);replace HX:=Hd (HX.o.pure hb);replace HR:=Hd (HR.o.pure hb);replace HL:=Hd (HL.o.pure hb);clear hb;have x0:=Al HX.o;have x1:=Ak HX.o;have x2:=Aj HX.o;have x3:=Am HX.o;rcases hcs with⟨hm,he⟩|⟨hm,hcs⟩
 ·have HE:=Hd he;have HN:=Hd hm;have hne:(Bj l.length p q t v != 0)=true:=by simpa using hm
  clear he hm;obtain ⟨r0,r1,r2,r3⟩:=HR.o.c4;have f0:=HR.o.frozen 0;have f1:=HR.o.frozen 1;have f2:=HR.o.frozen 2;have f3:=HR.o.frozen 3;go_wp2;refine bodyPost_ret (v:= .tuple #[.agg #[Aa Ab 0,Aa Ab 0,Aa Ab 0,Aa Ab 0],Aa Ab (Bj l.length p q t v)]) (by simp [results,Tryz.results93,go_sem,r0,r1,r2,r3]) rfl ?_;exact Qq HE.o HN.o (Cn _ HB.o (Asr _) _ _ _ _)
 ·rw [hm];clear hm;rcases hcs with⟨h9,he⟩|⟨rfl,hcs⟩
  ·have HE:=Hd he;have HN:=Hd (show(60:Int)≠0 by decide);have hne:(t != 9)=true:=by simpa using h9
   clear he h9;obtain ⟨r0,r1,r2,r3⟩:=HR.o.c4;have f0:=HR.o.frozen 0;have f1:=HR.o.frozen 1;have f2:=HR.o.frozen 2;have f3:=HR.o.frozen 3;go_wp2;refine bodyPost_ret (v:= .tuple #[.agg #[Aa Ab 0,Aa Ab 0,Aa Ab 0,Aa Ab 0],Aa Ab 60]) (by simp [results,Tryz.results93,go_sem,r0,r1,r2,r3]) rfl ?_;exact Qq HE.o HN.o (Cn _ HB.o (Asr _) _ _ _ _)
  ·have HCS:=Hd hcs;clear hcs;go_wp2_with fail;go_at_call 173;refine(U4 A _ c p q 9 v l _ HL.o hc hn).mono ?_;rintro e w2 ⟨rfl,hb⟩;clear x0 x1 x2 x3;replace HB:=Hd (Ad HB.o hb);replace HX:=Hd (HX.o.pure hb);replace HR:=Hd (HR.o.pure hb);replace HL:=Hd (HL.o.pure hb);clear hb;have x0:=Al HX.o;have x1:=Ak HX.o;have x2:=Aj HX.o;have x3:=Am HX.o;rcases HCS.o with⟨hs,he⟩|⟨hs,hcs⟩
   ·have HE:=Hd he;have HN:=Hd hs;have hne:(Bs l p q 9 v != 0)=true:=by simpa using hs
    clear he hs HCS;obtain ⟨r0,r1,r2,r3⟩:=HR.o.c4;have f0:=HR.o.frozen 0;have f1:=HR.o.frozen 1;have f2:=HR.o.frozen 2;have f3:=HR.o.frozen 3;go_wp2;refine bodyPost_ret (v:= .tuple #[.agg #[Aa Ab 0,Aa Ab 0,Aa Ab 0,Aa Ab 0],Aa Ab (Bs l p q 9 v)]) (by simp [results,Tryz.results93,go_sem,r0,r1,r2,r3]) rfl ?_;exact Qq HE.o HN.o (Cn _ HB.o (Asr _) _ _ _ _)
   ·obtain⟨_,_,hW,_⟩:=Y4 hs;have hv:=By.1 hW;rw [hs];obtain⟨V,rfl⟩:∃V:Nat,v=V:=⟨v.toNat,by omega⟩;obtain⟨e1,e2,e3,_⟩:=Ajc hs;obtain⟨nf,hnf⟩:∃x,lsFrom l p q 9 V=x:=⟨_,rfl⟩;obtain⟨U,hU⟩:∃U,kyU l p q 9 V=U:=⟨_,rfl⟩;have hnf40:nf≤1099511627776:=by omega
    have HU:=Hd (show loadU l ((nf:Int)+(V:Int)) V=U by rw [←hU,←hnf];rfl);have HKU:=Hd hU;have HNF:=Hd hnf;have hV8:V≤8:=by omega
    rw [hU] at hcs;rw [hnf];have HC2:=Hd hcs;clear hcs hU hnf hs e1 e2 e3 hv hW HCS;rcases HC2.o with⟨hw,he⟩|⟨hw,he⟩
    ·have HE:=Hd he;have HN:=Hd (show(212:Int)≠0 by decide);have hU64:(U:Int)<18446744073709551616:=by rw [←HU.o];exact Aor _ _ _
     have HW:=Hd hw;clear he hw HC2;go_wp2_with fail;go_at_call 167;refine(G6 A _ c ((nf:Int)+V) V l _ (D6 l.length ((nf:Int)+V) V) U HL.o hc (by omega) rfl HU.o).mono ?_;rintro e w3 ⟨rfl,hb⟩;clear x0 x1 x2 x3;replace HB:=Hd (Ad HB.o hb);replace HX:=Hd (HX.o.pure hb);replace HR:=Hd (HR.o.pure hb);replace HL:=Hd (HL.o.pure hb);clear hb;have x0:=Al HX.o;have x1:=Ak HX.o;have x2:=Aj HX.o;have x3:=Am HX.o;go_wp2_with fail;go_at_call 53;refine(Hq ((U:Int) % 4294967296) _).mono ?_;cases hx:Av ((U:Int) % 4294967296) with
     |false=>
      rw [Zn hx];rintro e w4 ⟨rfl,rfl⟩;clear hx;obtain ⟨r0,r1,r2,r3⟩:=HR.o.c4;have f0:=HR.o.frozen 0;have f1:=HR.o.frozen 1;have f2:=HR.o.frozen 2;have f3:=HR.o.frozen 3;go_wp2;refine bodyPost_ret (v:= .tuple #[.agg #[Aa Ab 0,Aa Ab 0,Aa Ab 0,Aa Ab 0],Aa Ab 212]) (by simp [results,Tryz.results93,go_sem,r0,r1,r2,r3]) rfl ?_;exact Qq HE.o HN.o (Cn _ HB.o (Asr _) _ _ _ _)
     |true=>
      rw [Xo hx];rintro e w4 ⟨rfl,rfl⟩;have hq:¬(U/4294967296=0):=by
       intro h0;have e:(U:Int) % 4294967296=U:=by omega
       rw [e,HW.o] at hx;cases hx
      have hne:(((U:Int)/4294967296) != 0)=true:=by simpa using(show ¬((U:Int)/4294967296=0) by omega)
      clear hx hq;obtain ⟨r0,r1,r2,r3⟩:=HR.o.c4;have f0:=HR.o.frozen 0;have f1:=HR.o.frozen 1;have f2:=HR.o.frozen 2;have f3:=HR.o.frozen 3;go_wp2;refine bodyPost_ret (v:= .tuple #[.agg #[Aa Ab 0,Aa Ab 0,Aa Ab 0,Aa Ab 0],Aa Ab 212]) (by simp [results,Tryz.results93,go_sem,r0,r1,r2,r3]) rfl ?_;exact Qq HE.o HN.o (Cn _ HB.o (Asr _) _ _ _ _)
    ·have hw4:=By.1 hw;have HE:=Hd he;clear he hw HC2;have hU4:U=1∨U=2∨U=4∨U=8:=by omega
     clear hw4;rcases hU4 with rfl|rfl|rfl|rfl
     ·go_wp2_with fail;go_at_call 167;refine(G6 A _ c ((nf:Int)+V) V l _ (D6 l.length ((nf:Int)+V) V) 1 HL.o hc (by omega) rfl HU.o).mono ?_;rintro e w3 ⟨rfl,hb⟩;clear x0 x1 x2 x3;replace HB:=Hd (Ad HB.o hb);replace HX:=Hd (HX.o.pure hb);replace HR:=Hd (HR.o.pure hb);replace HL:=Hd (HL.o.pure hb);clear hb;have x0:=Al HX.o;have x1:=Ak HX.o;have x2:=Aj HX.o;have x3:=Am HX.o;go_wp2_with fail;go_at_call 53;refine(Hq 1 _).mono ?_;rw [show Jr 1=0 by decide];rintro e w4 ⟨rfl,rfl⟩;obtain ⟨r0,r1,r2,r3⟩:=HR.o.c4;have f0:=HR.o.frozen 0;have f1:=HR.o.frozen 1;have f2:=HR.o.frozen 2;have f3:=HR.o.frozen 3;go_wp2;refine bodyPost_ret (v:= .tuple #[.agg #[Aa Ab nf,Aa Ab V,Aa Ab 14,Aa Ab 1],Aa Ab 0]) (by simp [results,Tryz.results93,go_sem,r0,r1,r2,r3]) rfl ?_;exact Rn HE.o (by rw [HNF.o]) rfl (by rw [HKU.o];rfl) (Cn _ HB.o (Asr _) _ _ _ _)
     ·go_wp2_with fail;go_at_call 167;refine(G6 A _ c ((nf:Int)+V) V l _ (D6 l.length ((nf:Int)+V) V) 2 HL.o hc (by omega) rfl HU.o).mono ?_;rintro e w3 ⟨rfl,hb⟩;clear x0 x1 x2 x3;replace HB:=Hd (Ad HB.o hb);replace HX:=Hd (HX.o.pure hb);replace HR:=Hd (HR.o.pure hb);replace HL:=Hd (HL.o.pure hb);clear hb;have x0:=Al HX.o;have x1:=Ak HX.o;have x2:=Aj HX.o;have x3:=Am HX.o;go_wp2_with fail;go_at_call 53;refine(Hq 2 _).mono ?_;rw [show Jr 2=0 by decide];rintro e w4 ⟨rfl,rfl⟩;obtain ⟨r0,r1,r2,r3⟩:=HR.o.c4;have f0:=HR.o.frozen 0;have f1:=HR.o.frozen 1;have f2:=HR.o.frozen 2;have f3:=HR.o.frozen 3;go_wp2;refine bodyPost_ret (v:= .tuple #[.agg #[Aa Ab nf,Aa Ab V,Aa Ab 14,Aa Ab 2],Aa Ab 0]) (by simp [results,Tryz.results93,go_sem,r0,r1,r2,r3]) rfl ?_;exact Rn HE.o (by rw [HNF.o]) rfl (by rw [HKU.o];rfl) (Cn _ HB.o (Asr _) _ _ _ _)
     ·go_wp2_with fail;go_at_call 167;refine(G6 A _ c ((nf:Int)+V) V l _ (D6 l.length ((nf:Int)+V) V) 4 HL.o hc (by omega) rfl HU.o).mono ?_;rintro e w3 ⟨rfl,hb⟩;clear x0 x1 x2 x3;replace HB:=Hd (Ad HB.o hb);replace HX:=Hd (HX.o.pure hb);replace HR:=Hd (HR.o.pure hb);replace HL:=Hd (HL.o.pure hb);clear hb;have x0:=Al HX.o;have x1:=Ak HX.o;have x2:=Aj HX.o;have x3:=Am HX.o;go_wp2_with fail;go_at_call 53;refine(Hq 4 _).mono ?_;rw [show Jr 4=0 by decide];rintro e w4 ⟨rfl,rfl⟩;obtain ⟨r0,r1,r2,r3⟩:=HR.o.c4;have f0:=HR.o.frozen 0;have f1:=HR.o.frozen 1;have f2:=HR.o.frozen 2;have f3:=HR.o.frozen 3;go_wp2;refine bodyPost_ret (v:= .tuple #[.agg #[Aa Ab nf,Aa Ab V,Aa Ab 14,Aa Ab 4],Aa Ab 0]) (by simp [results,Tryz.results93,go_sem,r0,r1,r2,r3]) rfl ?_;exact Rn HE.o (by rw [HNF.o]) rfl (by rw [HKU.o];rfl) (Cn _ HB.o (Asr _) _ _ _ _)
     ·go_wp2_with fail;go_at_call 167;refine(G6 A _ c ((nf:Int)+V) V l _ (D6 l.length ((nf:Int)+V) V) 8 HL.o hc (by omega) rfl HU.o).mono ?_;rintro e w3 ⟨rfl,hb⟩;clear x0 x1 x2 x3;replace HB:=Hd (Ad HB.o hb);replace HX:=Hd (HX.o.pure hb);replace HR:=Hd (HR.o.pure hb);replace HL:=Hd (HL.o.pure hb);clear hb;have x0:=Al HX.o;have x1:=Ak HX.o;have x2:=Aj HX.o;have x3:=Am HX.o;go_wp2_with fail;go_at_call 53;refine(Hq 8 _).mono ?_;rw [show Jr 8=0 by decide];rintro e w4 ⟨rfl,rfl⟩;obtain ⟨r0,r1,r2,r3⟩:=HR.o.c4;have f0:=HR.o.frozen 0;have f1:=HR.o.frozen 1;have f2:=HR.o.frozen 2;have f3:=HR.o.frozen 3;go_wp2;refine bodyPost_ret (v:= .tuple #[.agg #[Aa Ab nf,Aa Ab V,Aa Ab 14,Aa Ab 8],Aa Ab 0]) (by simp [results,Tryz.results93,go_sem,r0,r1,r2,r3]) rfl ?_;exact Rn HE.o (by rw [HNF.o]) rfl (by rw [HKU.o];rfl) (Cn _ HB.o (Asr _) _ _ _ _)
def opE(l:List UInt8)(p q t v:Int):Int:=
 if Gh l p q t v≠0 then Gh l p q t v else if Bs l (Et l p q t v) (Eu l p q t v) (J0 l p q t v) (Ev l p q t v)≠0 then Bs l (Et l p q t v) (Eu l p q t v) (J0 l p q t v) (Ev l p q t v) else if lsLen l p q t v≠lsLen l (Et l p q t v) (Eu l p q t v) (J0 l p q t v) (Ev l p q t v) then 214 else 0
structure Sq(L:List UInt8)(p q t v k:Int)(s:List UInt8)(a:Nat):Prop where
 may:Bj L.length p q t v=0
 ty:(k=5∧t=4)∨(k=6∧t=5)∨(k=7∧t=25)
 tg:Bh L p q t v=0∧Bb L p q t v=a
 fnd:∀ts,Hi ts t=true→Dj L p q t v ts=0∧Ea L p q t v ts=s∧Dr L p q t v ts=a
theorem S5{L s:List UInt8}{z w:Nat}{v:Bv}(h:Cr L z w v)(hk:Iu L s v)(h0:(0:UInt8)∉s){y:Int}(hy:Av y=true):Sq L z w 4 y 5 s v.n:=by
 obtain⟨k1,_,k3⟩:=hk;have hi:inl v.t=false:=by rw [k1];decide
 have hm:=h.may (t:=4) (by decide) hy;obtain⟨g1,g2⟩:=h.goes hi (t:=4) (by decide) hy (by decide);obtain⟨q1,q2⟩:=Aon k3 h0;have hf:∀ts,Hi ts 4=true→Dj L z w 4 y ts=0:=by
  intro ts ht;unfold Dj;rw [if_neg (by rw [hm];decide),if_neg (by rw [ht];decide),if_neg (by rw [g1];decide),if_pos rfl,g2];exact q1
 refine⟨hm,.inl ⟨rfl,rfl⟩,⟨g1,g2⟩,fun ts ht=>⟨hf ts ht,?_,?_⟩⟩
 ·unfold Ea;rw [if_pos (hf ts ht),if_pos rfl,g2];exact q2
 ·unfold Dr;rw [if_pos (hf ts ht),g2]
theorem Q8{L s:List UInt8}{z w:Nat}{v:Bv}{k:Int}(h:Cr L z w v)(hk:(k=6∧Fw L 5 s [0] v)∨(k=7∧Fw L 25 s [] v))(hL:L.length<2^32):Sq L z w v.t v.w k s v.n:=by
 obtain⟨zs,j,T,hz,t1,t2,c,t3,t4,t5,hT⟩:∃(zs:List UInt8) (j T:Nat),zs=List.replicate j 0∧v.t=T∧v.w=bWidth s.length∧∃c,v.n=c+v.w∧At L c (Ai v.w s.length++s++zs)∧c % v.w=0∧((k=6∧T=5∧j=1)∨(k=7∧T=25∧j=0)):=by
  rcases hk with⟨e,t1,t2,c,t3,t4,t5⟩|⟨e,t1,t2,c,t3,t4,t5⟩
  ·exact⟨[0],1,5,rfl,t1,t2,c,t3,t4,t5,.inl ⟨e,rfl,rfl⟩⟩
  ·exact⟨[],0,25,rfl,t1,t2,c,t3,t4,t5,.inr ⟨e,rfl,rfl⟩⟩
 have hw:Av (v.w:Int)=true:=by rw [t2];exact D1 _
 have hi:inl v.t=false:=by rw [t1];rcases hT with⟨_,rfl,_⟩|⟨_,rfl,_⟩ <;>decide
 have hl:Bc (v.t:Int)=true:=by rw [t1];rcases hT with⟨_,rfl,_⟩|⟨_,rfl,_⟩ <;>decide
 have hm:=h.may (t:=v.t) hl hw;obtain⟨g1,g2⟩:=h.goes hi hl hw hi;have hle:=t4.le;simp only [Ass,Au] at hle;have hlt:s.length<2^(8*v.w):=by rw [t2];exact El (D1 _) (by omega) (Nat.le_refl _)
 obtain⟨c1,c2⟩:=An9 hw t5 t4 hlt hz;have h4:¬((v.t:Int)=4):=by rw [t1];rcases hT with⟨_,rfl,_⟩|⟨_,rfl,_⟩ <;>decide
 have hj:(if(v.t:Int)=5 then 1 else 0)=j:=by rw [t1];rcases hT with⟨_,rfl,rfl⟩|⟨_,rfl,rfl⟩ <;>rfl
 have hf:∀ts,Hi ts v.t=true→Dj L z w v.t v.w ts=0:=by
  intro ts ht;unfold Dj;rw [if_neg (by rw [hm];decide),if_neg (by rw [ht];decide),if_neg (by rw [g1];decide),if_neg h4,g2,hj,t3];exact c1
 refine⟨hm,?_,⟨g1,g2⟩,fun ts ht=>⟨hf ts ht,?_,?_⟩⟩
 ·rw [t1];rcases hT with⟨e,rfl,_⟩|⟨e,rfl,_⟩
  ·exact .inr (.inl ⟨e,rfl⟩)
  ·exact .inr (.inr ⟨e,rfl⟩)
 ·unfold Ea;rw [if_pos (hf ts ht),if_neg h4,g2,t3];exact c2
 ·unfold Dr;rw [if_pos (hf ts ht),g2]
def Prp(y:Bv):Prop:=y=⟨0,1,0⟩∨(∃n,y=C8 n)∨(∃n:Int,(-9223372036854775808≤n∧n≤9223372036854775807)∧y=Cq n)∨(∃u,u<18446744073709551616∧y=Cu u)∨inl y.t=false
def Re(T:Int)(vs:List Bv):Prop:=∀y∈vs,Prp y∧Bc (y.t:Int)=true∧Av (y.w:Int)=true∧(Ce T=false→D4 T=(y.t:Int))
structure Ae7(L:List UInt8)(P:Int→Int→Int→Int→Prop):Prop where
 key:∀{z w:Nat} {v:Bv} {s:List UInt8} {y:Int},Cr L z w v→Iu L s v→(0:UInt8)∉s→Av y=true→P z w 4 y
 text:∀{z w:Nat} {v:Bv} {s:List UInt8},Cr L z w v→(Fw L 5 s [0] v∨Fw L 25 s [] v)→P z w v.t v.w
 num:∀{z w:Nat} {v:Bv} {n:Int} {u:Nat},Cr L z w v→(Iv L 6 (bWidthI n) (bits n) v∨Iv L 7 (bWidth u) u v)→(-9223372036854775808≤n∧n≤9223372036854775807)→u<18446744073709551616→P z w v.t v.w
 vec:∀{z w:Nat} {v:Bv} {len tags:Bool} {vs:List Bv},Cr L z w v→Lf L 0 v z w→H0 L 0 vs v→Dp L v.t len tags vs v→(v.t:Int)≠9→aheadT (v.t:Int)=(if len=true then 1 else 0)→Re v.t vs→P z w v.t v.w
 map:∀{z w:Nat} {v kv:Bv} {vs kvs:List Bv},Cr L z w v→Lf L 0 v z w→H0 L 0 vs v→Dp L 14 true false kvs kv→Gq L kv vs v→(v.t:Int)=9→Re v.t vs→P z w v.t v.w
inductive Hp(L:List UInt8)(P:Int→Int→Int→Int→Prop):Int→Int→Int→Int→Tr→Prop
 |inl {p q t v k n:Int} {u:Nat} (s ks c) (hm:Bj L.length p q t v=0) (hi:Aw t=true) (hk:B9 t=k) (h4:1≤k∧k≤4) (hv:Ae5 L p q t v k n u):Hp L P p q t v (.mk k n u s ks c)
 |txt {p q t v k:Int} {s:List UInt8} {a:Nat} (n u ks c) (hr:Sq L p q t v k s a) (hP:P p q t v):Hp L P p q t v (.mk k n u s ks c)
 |num {p q t v k n:Int} {u:Nat} (s ks c) (hm:Bj L.length p q t v=0) (hi:Aw t=false) (hk:B9 t=k) (h8:k=8∨k=9) (htg:Bh L p q t v=0) (hv:Ae5 L p q t v k n u) (hP:P p q t v):Hp L P p q t v (.mk k n u s ks c)
 |list {p q t v k:Int} {c:List Tr} (n u s ks) (hm:Bj L.length p q t v=0) (hi:Aw t=false) (hk:B9 t=k) (h10:10≤k∧k≤16) (htg:Bh L p q t v=0) (hl:Bs L p q t v=0∧lsLen L p q t v=c.length) (hP:P p q t v)
   (ha:∀i:Nat,i<c.length→Es L p q t v i=0) (he:∀(i:Nat) x,c[i]?=some x→Hp L P (Ij L p q t v i) (Ik L p q t v i) (Ih L p q t v i) (Il L p q t v i) x):Hp L P p q t v (.mk k n u s ks c)
 |map {p q v:Int} {c:List Tr} {ks:List (List UInt8)} (n u s) (hm:Bj L.length p q 9 v=0) (htg:Bh L p q 9 v=0) (hl:Bs L p q 9 v=0∧lsLen L p q 9 v=c.length) (hks:ks.length=c.length) (hy:Gh L p q 9 v=0) (ho:opE L p q 9 v=0)
   (hkl:J0 L p q 9 v=14∧Bh L (Et L p q 9 v) (Eu L p q 9 v) 14 (Ev L p q 9 v)=0∧Bs L (Et L p q 9 v) (Eu L p q 9 v) 14 (Ev L p q 9 v)=0∧lsLen L (Et L p q 9 v) (Eu L p q 9 v) 14 (Ev L p q 9 v)=c.length) (hP:P p q 9 v∧P (Et L p q 9 v) (Eu L p q 9 v) 14 (Ev L p q 9 v))
   (hke:∀(i:Nat) s,ks[i]?=some s→Es L (Et L p q 9 v) (Eu L p q 9 v) 14 (Ev L p q 9 v) i=0∧∃a,Sq L (Ij L (Et L p q 9 v) (Eu L p q 9 v) 14 (Ev L p q 9 v) i) (Ik L (Et L p q 9 v) (Eu L p q 9 v) 14 (Ev L p q 9 v) i) (Ih L (Et L p q 9 v) (Eu L p q 9 v) 14 (Ev L p q 9 v) i) (Il L (Et L p q 9 v) (Eu L p q 9 v) 14 (Ev L p q 9 v) i) 5 s a∧P (Ij L (Et L p q 9 v) (Eu L p q 9 v) 14 (Ev L p q 9 v) i) (Ik L (Et L p q 9 v) (Eu L p q 9 v) 14 (Ev L p q 9 v) i) (Ih L (Et L p q 9 v) (Eu L p q 9 v) 14 (Ev L p q 9 v) i) (Il L (Et L p q 9 v) (Eu L p q 9 v) 14 (Ev L p q 9 v) i))
   (ha:∀i:Nat,i<c.length→Es L p q 9 v i=0) (he:∀(i:Nat) x,c[i]?=some x→Hp L P (Ij L p q 9 v i) (Ik L p q 9 v i) (Ih L p q 9 v i) (Il L p q 9 v i) x):Hp L P p q 9 v (.mk 17 n u s ks c)
end Go.Proofs.YtgbjodnegkbfoaaGreat
namespace Go.Proofs.YtgbjodnegkbfoaaGreat
open Go.Acc
theorem Akb{a b:List (List UInt8×Tr)}(hp:a.Perm b)(ha:a.Pairwise (fun x y=>x.1<y.1))(hb:b.Pairwise (fun x y=>x.1<y.1)):a=b:=
 hp.eq_of_pairwise (fun _ _ _ _ h h'=>absurd h' (List.lt_asymm h)) ha hb
theorem Apl{n:Nat}{ps:List Nat}(ks:List (List UInt8))(c:List Tr)(d:Tr)(hk:ks.length=n)(hc:c.length=n)(hd:ks.Nodup)(hp:ps.Perm (List.range n))(ha:∀(i j:Nat) (hi:i<ps.length) (hj:j<ps.length),i<j→ks.getD ps[i] []<ks.getD ps[j] []):
  ps.map (fun p=>(ks.getD p [],c.getD p d))=Ry (ks.zip c):=by
 have hz:(List.range n).map (fun p=>(ks.getD p [],c.getD p d))=ks.zip c:=by
  apply List.ext_getElem
  ·simp [hk,hc]
  ·intro i h1 h2;have hi:i<n:=by simpa using h1
   simp only [List.getElem_map,List.getElem_range,List.getElem_zip];rw [As0,Asq (by omega),As0,Asq (by omega)];rfl
 refine Akb ?_ ?_ (Tp _ ?_)
 ·have h1:=hp.map (fun p=>(ks.getD p [],c.getD p d));rw [hz] at h1;exact h1.trans (Fl _).symm
 ·rw [List.pairwise_iff_getElem];intro i j hi hj hij;rw [List.getElem_map,List.getElem_map];exact ha i j (by simpa using hi) (by simpa using hj) hij
 ·rw [List.map_fst_zip (by omega)];exact hd
inductive F8:Tr→Prop
 |mk {k n:Int} {u:Nat} {s:List UInt8} {ks:List (List UInt8)} {l:List Tr} (h1: -9223372036854775808≤n∧n≤9223372036854775807) (h2:u<18446744073709551616) (h:∀t∈l,F8 t):F8 (.mk k n u s ks l)
theorem Aby(t:Tr):(Bf t).n=t.n∧(Bf t).u=t.u∧(Bf t).s=t.s:=by
 obtain⟨k,n,u,s,ks,l⟩:=t;rw [Bf];split <;>exact⟨rfl,rfl,rfl⟩
theorem Afw{a b:List Tr}(h:a.Perm b):Tr.costL a=Tr.costL b:=by
 induction h with
 |nil=>rfl
 |cons x _ ih=>rw [Tr.costL,Tr.costL,ih]
 |swap x y l=>rw [Tr.costL,Tr.costL,Tr.costL,Tr.costL];omega
 |trans _ _ h1 h2=>exact h1.trans h2
theorem Yt{a b:List (List UInt8)}(h:a.Perm b):A6 a=A6 b:=by
 induction h with
 |nil=>rfl
 |cons x _ ih=>rw [A6,A6,ih]
 |swap x y l=>rw [A6,A6,A6,A6];omega
 |trans _ _ h1 h2=>exact h1.trans h2
mutual
theorem Mv:∀(t:Tr),Gw t→(Bf t).cost=t.cost
 | .mk k n u s ks l,h=>by
  cases h with
  |mk h1 h2 h3 h4 hl=>
   have ih:=Uf l hl;simp only [Fi,Bool.and_eq_true,decide_eq_true_eq] at h1;obtain⟨⟨⟨_,glen⟩,_⟩,_⟩:=h1;rw [Bf];by_cases hk:k=17
   ·rw [if_pos hk];have glen:ks.length=l.length:=glen hk;have hll:(C3 l).length=l.length:=by rw [Cx,List.length_map]
    have hp:=Fl (ks.zip (C3 l));have e1:=Yt (hp.map (·.1));have e2:=Afw (hp.map (·.2));rw [List.map_fst_zip (by omega)] at e1;rw [List.map_snd_zip (by omega)] at e2;rw [Tr.cost,Tr.cost,e1,e2,ih]
   ·rw [if_neg hk,Tr.cost,Tr.cost,ih]
theorem Uf:∀(l:List Tr),(∀t∈l,Gw t)→Tr.costL (C3 l)=Tr.costL l
 | [],_=>rfl
 |t::r,h=>by
  rw [C3,Tr.costL,Tr.costL,Mv t (h t (by simp)),Uf r (fun x hx=>h x (by simp [hx]))]
end
mutual
theorem Abl:∀(t:Tr) (d:Nat),(Tr.pre d t).length≤t.cost
 | .mk k n u s ks l,d=>by
  have:=Ya l (d+1);rw [Tr.pre,Tr.cost,List.length_cons];omega
theorem Ya:∀(l:List Tr) (d:Nat),(Tr.pre.Tr.preL d l).length≤Tr.costL l
 | [],_=>by simp [Tr.pre.Tr.preL]
 |t::r,d=>by
  have h1:=Abl t d;have h2:=Ya r d;rw [Tr.pre.Tr.preL,Tr.costL,Ass];omega
end
theorem Xq:∀{l:List Tr} {t:Tr},t∈l→t.cost+40≤Tr.costL l
 | [],_,h=>by simp at h
 |x::r,t,h=>by
  rw [Tr.costL];rcases List.mem_cons.1 h with rfl|h
  ·omega
  ·have:=Xq h;omega
theorem Qp:∀(l:List (List UInt8)) (s:List UInt8),s∈l→s.length≤A6 l
 | [],_,h=>by simp at h
 |x::r,s,h=>by
  rw [A6];rcases List.mem_cons.1 h with rfl|h
  ·omega
  ·have:=Qp r s h;omega
mutual
theorem Abm:∀(t:Tr) (d:Nat) (y:Nat×Tr),y∈Tr.pre d t→∀s∈y.2.ks,s.length≤t.cost
 | .mk k n u s ks l,d,y,hy,z,hz=>by
  rw [Tr.pre] at hy;rw [Tr.cost];rcases List.mem_cons.1 hy with rfl|hy
  ·have:=Qp ks z hz;omega
  ·have:=Yb l (d+1) y hy z hz;omega
theorem Yb:∀(l:List Tr) (d:Nat) (y:Nat×Tr),y∈Tr.pre.Tr.preL d l→∀s∈y.2.ks,s.length≤Tr.costL l
 | [],_,y,hy,_,_=>by simp [Tr.pre.Tr.preL] at hy
 |t::r,d,y,hy,z,hz=>by
  rw [Tr.pre.Tr.preL] at hy;rw [Tr.costL];rcases List.mem_append.1 hy with h|h
  ·have:=Abm t d y h z hz;omega
  ·have:=Yb r d y h z hz;omega
end
end Go.Proofs.YtgbjodnegkbfoaaGreat
namespace Go.Proofs.YtgbjodnegkbfoaaGreat
open Go.RowKit Go.Acc
inductive Ho:Tr→Prop
 |mk {k n:Int} {u:Nat} {s:List UInt8} {ks:List (List UInt8)} {l:List Tr} (hk:1≤k∧k≤17) (hz:k=5→(0:UInt8)∉s) (hkz:∀x∈ks,(0:UInt8)∉x) (hf:k=15∨k=16→l.length=2∨l.length=3∨l.length=4) (hp:∀c∈l,Az k=0∨c.k=Az k)
  (hn: -9223372036854775808≤n∧n≤9223372036854775807) (hu:u<18446744073709551616) (hl:k=17→ks.length=l.length) (h:∀t∈l,Ho t):Ho (.mk k n u s ks l)
theorem Ho.fix{t:Tr}(h:Ho t):Rf t:=by
 cases h with
 |mk _ _ _ hf _ _ _ _ _=>exact hf
theorem Ho.vals{t:Tr}(h:Ho t):(-9223372036854775808≤t.n∧t.n≤9223372036854775807)∧t.u<18446744073709551616:=by
 cases h with
 |mk _ _ _ _ _ hn hu _ _=>exact⟨hn,hu⟩
theorem Aef{t:Tr}(h:Gw t):F8 t→Ho (Bf t):=by
 induction h with
 |mk h1 h2 h3 h4 hl ih=>
  rename_i k n u s ks l;intro hN;cases hN with
  |mk n1 n2 n3=>
   have hv:Gw (.mk k n u s ks l):= .mk h1 h2 h3 h4 hl;obtain⟨s1,s2,s3⟩:=Aka hv;have s4:=Kp hv;have hm:∀t∈C3 l,Ho t:=by
    intro t ht;rw [Cx] at ht;obtain⟨x,hx,rfl⟩:=List.mem_map.1 ht;exact ih x hx (n3 x hx)
   simp only [Fi,Bool.and_eq_true,decide_eq_true_eq] at h1;obtain⟨⟨⟨⟨⟨⟨⟨⟨⟨g1,g2⟩,_⟩,_⟩,_⟩,_⟩,_⟩,glen⟩,_⟩,_⟩:=h1;have g1:1≤k:=g1;have g2:k≤17:=g2;rw [Bf] at s1 s2 s3 s4⊢;by_cases hk:k=17
   ·rw [if_pos hk] at s1 s2 s3 s4⊢;have hp:=Fl (ks.zip (C3 l));refine .mk ⟨g1,g2⟩ h2 (fun x hx=>?_) s4 s2 n1 n2 (fun _=>by simp) (fun t ht=>?_)
    ·obtain⟨y,hy,rfl⟩:=List.mem_map.1 hx;exact h3 _ (List.of_mem_zip (hp.mem_iff.1 hy)).1
    ·obtain⟨y,hy,rfl⟩:=List.mem_map.1 ht;exact hm _ (List.of_mem_zip (hp.mem_iff.1 hy)).2
   ·rw [if_neg hk] at s1 s2 s3 s4⊢;exact .mk ⟨g1,g2⟩ h2 h3 s4 s2 n1 n2 (fun h=>absurd h hk) hm
theorem O0{L:List UInt8}{P:Int→Int→Int→Int→Prop}{vs:List Bv}{v:Bv}{p q:Int}{c:List Tr}(h:H0 L 0 vs v)(r:Lf L 0 v p q)(hlen:vs.length=c.length)(hleg:Ce (v.t:Int)=true→∀y∈vs,Bc (y.t:Int)=true∧Av (y.w:Int)=true)
  (hk:∀(i:Nat) y x,vs[i]?=some y→c[i]?=some x→Cr L (v.n+i*v.w) v.w y→Hp L P ((v.n+i*v.w:Nat):Int) v.w (if Ce (v.t:Int)=true then(y.t:Int) else D4 (v.t:Int)) (if Ce (v.t:Int)=true then(ownW v.w y:Int) else(v.w:Int)) x):
  (Bs L p q v.t v.w=0∧lsLen L p q v.t v.w=c.length)∧(∀i:Nat,i<c.length→Es L p q v.t v.w i=0)∧∀(i:Nat) x,c[i]?=some x→Hp L P (Ij L p q v.t v.w i) (Ik L p q v.t v.w i) (Ih L p q v.t v.w i) (Il L p q v.t v.w i) x:=by
 obtain⟨e1,e2,_⟩:=Lr h r;have key:∀i:Nat,i<c.length→∃y,vs[i]?=some y∧Es L p q v.t v.w i=0∧Ij L p q v.t v.w i=((v.n+i*v.w:Nat):Int)∧Ik L p q v.t v.w i=(v.w:Int)∧Ih L p q v.t v.w i=(if Ce (v.t:Int)=true then(y.t:Int) else D4 (v.t:Int))∧Il L p q v.t v.w i=(if Ce (v.t:Int)=true then(ownW v.w y:Int) else(v.w:Int)):=by
  intro i hi;have hy:vs[i]?=some vs[i]:=Asq (by omega);obtain⟨a1,a2,a3,a4,a5⟩:=Aa3 h r hy (fun ht=>hleg ht _ (List.getElem_mem _));rw [Nat.zero_add] at a2;exact⟨vs[i],hy,a1,a2,a3,a4,a5⟩
 refine⟨⟨e1,by rw [e2,hlen]⟩,fun i hi=>?_,fun i x hx=>?_⟩
 ·obtain⟨_,_,a1,_⟩:=key i hi;exact a1
 ·obtain⟨y,hy,_,a2,a3,a4,a5⟩:=key i (List.getElem?_eq_some_iff.1 hx).1;rw [a2,a3,a4,a5];exact hk i y x hy hx (h.slot hy)
theorem Mq{L:List UInt8}{P:Int→Int→Int→Int→Prop}{z w:Nat}{v:Bv}{k n:Int}{u:Nat}(s ks c)(h:Cr L z w v)(hv:(k=1∧v=⟨0,1,0⟩)∨(k=2∧v=C8 n)∨(k=3∧v=Cq n)∨(k=4∧v=Cu u))(hn: -9223372036854775808≤n∧n≤9223372036854775807)(hu:u<18446744073709551616):Hp L P z w v.t w (.mk k n u s ks c):=by
 obtain⟨h1,h2,h3,h4⟩:=Amd h hv hn hu;exact .inl s ks c h1 h2 h3 (by rcases hv with⟨h,_⟩|⟨h,_⟩|⟨h,_⟩|⟨h,_⟩ <;>omega) h4
theorem J7{L:List UInt8}{P:Int→Int→Int→Int→Prop}{v:Bv}{p q:Int}{c:List Tr}{K:Int}{f:Tr→Bv}{T:Nat}(h:H0 L 0 (c.map f) v)(r:Lf L 0 v p q)(htag:Ce (v.t:Int)=false)(hel:D4 (v.t:Int)=(T:Int))(hc:∀x∈c,x.k=K∧Ho x)(hT:∀x,(f x).t=T)
  (hf:∀x,(K=1∧f x=⟨0,1,0⟩)∨(K=2∧f x=C8 x.n)∨(K=3∧f x=Cq x.n)∨(K=4∧f x=Cu x.u)):
  (Bs L p q v.t v.w=0∧lsLen L p q v.t v.w=c.length)∧(∀i:Nat,i<c.length→Es L p q v.t v.w i=0)∧∀(i:Nat) x,c[i]?=some x→Hp L P (Ij L p q v.t v.w i) (Ik L p q v.t v.w i) (Ih L p q v.t v.w i) (Il L p q v.t v.w i) x:=by
 refine O0 h r (by rw [List.length_map]) (fun ht=>by rw [htag] at ht;cases ht) (fun i y x hy hx hs=>?_);rw [if_neg (by rw [htag];decide),if_neg (by rw [htag];decide),hel];rw [List.getElem?_map,hx] at hy;injection hy with hy
 obtain⟨h1,h2⟩:=hc x (List.mem_of_getElem? hx);have h3:=h2.vals;rw [←hy] at hs;have e:=hT x;obtain⟨xk,xn,xu,xs,xks,xl⟩:=x;have h1:xk=K:=h1;subst h1;have hq:=Mq (P:=P) xs xks xl hs (hf _) h3.1 h3.2;rw [e] at hq;exact hq
theorem Cs{k n:Int}{u:Nat}{s:List UInt8}{ks:List (List UInt8)}{c:List Tr}(h:Ho (.mk k n u s ks c)):(∀x∈c,Ho x∧(Az k=0∨x.k=Az k))∧(k=5→(0:UInt8)∉s)∧(∀x∈ks,(0:UInt8)∉x)∧(k=15∨k=16→c.length=2∨c.length=3∨c.length=4)∧
  (-9223372036854775808≤n∧n≤9223372036854775807)∧u<18446744073709551616∧(k=17→ks.length=c.length):=by
 cases h with
 |mk hk hz hkz hf hp hn hu hl h=>exact⟨fun x hx=>⟨h x hx,hp x hx⟩,hz,hkz,hf,hn,hu,hl⟩
theorem Ez{k n:Int}{u:Nat}{s:List UInt8}{ks:List (List UInt8)}{c:List Tr}{K:Int}(h:Ho (.mk k n u s ks c))(hK:Az k=K)(h0:K≠0):∀x∈c,x.k=K∧Ho x:=by
 intro x hx;obtain⟨h1,h2⟩:=(Cs h).1 x hx;rw [hK] at h2;exact⟨h2.resolve_left h0,h1⟩
theorem Nt{T:Int}{c:List Tr}{K:Int}{f:Tr→Bv}{tf:Nat}(hc:∀x∈c,x.k=K∧Ho x)(hT:D4 T=(tf:Int))(hTf:∀x,(f x).t=tf)(hf:∀x,(K=1∧f x=⟨0,1,0⟩)∨(K=2∧f x=C8 x.n)∨(K=3∧f x=Cq x.n)∨(K=4∧f x=Cu x.u)):Re T (c.map f):=by
 intro y hy;obtain⟨x,hx,rfl⟩:=List.mem_map.1 hy;have h3:=(hc x hx).2.vals;refine⟨?_,?_,?_,fun _=>by rw [hT,hTf]⟩
 ·rcases hf x with⟨_,e⟩|⟨_,e⟩|⟨_,e⟩|⟨_,e⟩ <;>rw [e]
  ·exact .inl rfl
  ·exact .inr (.inl ⟨_,rfl⟩)
  ·exact .inr (.inr (.inl ⟨_,h3.1,rfl⟩))
  ·exact .inr (.inr (.inr (.inl ⟨_,h3.2,rfl⟩)))
 ·rcases hf x with⟨_,e⟩|⟨_,e⟩|⟨_,e⟩|⟨_,e⟩ <;>rw [e]
  ·decide
  ·exact(by decide:Bc ((26:Nat):Int)=true)
  ·exact(by decide:Bc ((1:Nat):Int)=true)
  ·exact(by decide:Bc ((2:Nat):Int)=true)
 ·rcases hf x with⟨_,e⟩|⟨_,e⟩|⟨_,e⟩|⟨_,e⟩ <;>rw [e]
  ·decide
  ·exact(by decide:Av ((1:Nat):Int)=true)
  ·exact G4 _
  ·exact D1 _
theorem Aeg{L:List UInt8}{v:Bv}{t:Tr}(h:D8 L v t)(hok:Ho t):Prp v:=by
 have hv:=hok.vals;cases h with
 |null=>exact .inl rfl
 |truth=>exact .inr (.inl ⟨_,rfl⟩)
 |int n=>exact .inr (.inr (.inl ⟨_,hv.1,rfl⟩))
 |uint n u=>exact .inr (.inr (.inr (.inl ⟨_,hv.2,rfl⟩)))
 |key _ _ _ _ h=>exact .inr (.inr (.inr (.inr (by rw [h.1];decide))))
 |str _ _ _ _ h=>exact .inr (.inr (.inr (.inr (by rw [h.1];decide))))
 |blob _ _ _ _ h=>exact .inr (.inr (.inr (.inr (by rw [h.1];decide))))
 |indInt _ _ _ _ h=>exact .inr (.inr (.inr (.inr (by rw [h.1];decide))))
 |indUint _ _ _ _ h=>exact .inr (.inr (.inr (.inr (by rw [h.1];decide))))
 |ints _ _ _ _ h=>exact .inr (.inr (.inr (.inr (by rw [h.width.1];decide))))
 |uints _ _ _ _ h=>exact .inr (.inr (.inr (.inr (by rw [h.width.1];decide))))
 |bools _ _ _ _ h=>exact .inr (.inr (.inr (.inr (by rw [h.width.1];decide))))
 |keys _ _ _ _ _ h=>exact .inr (.inr (.inr (.inr (by rw [h.width.1];decide))))
 | @fixInts _ c _ _ _ _ h=>
  have hn:=(Cs hok).2.2.2.1 (.inl rfl);exact .inr (.inr (.inr (.inr (by rw [h.width.1];rcases hn with h|h|h <;>rw [h] <;>decide))))
 | @fixUints _ c _ _ _ _ h=>
  have hn:=(Cs hok).2.2.2.1 (.inr rfl);exact .inr (.inr (.inr (.inr (by rw [h.width.1];rcases hn with h|h|h <;>rw [h] <;>decide))))
 |vec _ _ _ _ _ _ h=>exact .inr (.inr (.inr (.inr (by rw [h.width.1];decide))))
 |map _ _ _ _ _ _ _ h=>exact .inr (.inr (.inr (.inr (by rw [h.width.1];decide))))
theorem Ads{L:List UInt8}{T:Int}{vs:List Bv}{c:List Tr}(hl:vs.length=c.length)(hr:∀(i:Nat) x t,vs[i]?=some x→c[i]?=some t→D8 L x t)(hc:∀x∈c,Ho x)(hT:Ce T=true):Re T vs:=by
 intro y hy;obtain⟨i,hi,rfl⟩:=List.mem_iff_getElem.1 hy;have hx:c[i]?=some c[i]:=Asq (by omega);have h:=hr i vs[i] c[i] (Asq hi) hx;have ho:=hc c[i] (List.getElem_mem _);obtain⟨g1,g2,_⟩:=h.legal ho.fix;exact⟨Aeg h ho,g1,g2,fun e=>by rw [hT] at e;cases e⟩
theorem Z5{L:List UInt8}{T:Int}{ks:List (List UInt8)}{vs:List Bv}(h:Ft L ks vs)(hT:D4 T=4):Re T vs:=by
 intro y hy;obtain⟨i,hi,rfl⟩:=List.mem_iff_getElem.1 hy;have hx:ks[i]?=some (ks[i]'(by rw [←h.1];exact hi)):=Asq (by rw [←h.1];exact hi);obtain⟨g1,g2,_⟩:=h.2 i _ vs[i] hx (Asq hi);refine⟨.inr (.inr (.inr (.inr (by rw [g1];decide)))),by rw [g1];decide,by rw [g2];decide,fun _=>by rw [hT,g1];rfl⟩
theorem Hz{L:List UInt8}{P:Int→Int→Int→Int→Prop}{z w:Nat}{v:Bv}{k:Int}{c:List Tr}(n u s ks)(hs:Cr L z w v)(hi:inl v.t=false)(hl:Bc (v.t:Int)=true)(hw:Av (v.w:Int)=true)(hk:B9 (v.t:Int)=k)(h10:10≤k∧k≤16)(hP:P z w v.t v.w)
  (h:(Bs L z w v.t v.w=0∧lsLen L z w v.t v.w=c.length)∧(∀i:Nat,i<c.length→Es L z w v.t v.w i=0)∧∀(i:Nat) x,c[i]?=some x→Hp L P (Ij L z w v.t v.w i) (Ik L z w v.t v.w i) (Ih L z w v.t v.w i) (Il L z w v.t v.w i) x):Hp L P z w v.t (ownW w v) (.mk k n u s ks c):=by
 have ho:ownW w v=v.w:=by unfold ownW;rw [if_neg (by rw [hi];decide)]
 rw [ho];have hd:=hs.leads hi hl hw;exact .list n u s ks hd.may hi hk h10 hd.tgE h.1 hP h.2.1 h.2.2
theorem Apf{L:List UInt8}{P:Int→Int→Int→Int→Prop}(hP:Ae7 L P){v:Bv}{t:Tr}(hr:D8 L v t)(hL:L.length<2^32):Ho t→∀z w,Cr L z w v→Hp L P z w v.t (ownW w v) t:=by
 have inlW:∀{w:Nat} {v:Bv},inl v.t=true→ownW w v=w:=fun h=>by unfold ownW;rw [if_pos h]
 induction hr with
 |null n u s ks c=>
  intro hok z w hs;obtain⟨_,_,_,_,hn,hu,_⟩:=Cs hok;rw [inlW (by decide)];exact Mq s ks c hs (.inl ⟨rfl,rfl⟩) hn hu
 |truth n u s ks c=>
  intro hok z w hs;obtain⟨_,_,_,_,hn,hu,_⟩:=Cs hok;rw [inlW (show inl (C8 n).t=true from(by decide:inl 26=true))];exact Mq s ks c hs (.inr (.inl ⟨rfl,rfl⟩)) hn hu
 |int n u s ks c=>
  intro hok z w hs;obtain⟨_,_,_,_,hn,hu,_⟩:=Cs hok;rw [inlW (show inl (Cq n).t=true from(by decide:inl 1=true))];exact Mq s ks c hs (.inr (.inr (.inl ⟨rfl,rfl⟩))) hn hu
 |uint n u s ks c=>
  intro hok z w hs;obtain⟨_,_,_,_,hn,hu,_⟩:=Cs hok;rw [inlW (show inl (Cu u).t=true from(by decide:inl 2=true))];exact Mq s ks c hs (.inr (.inr (.inr ⟨rfl,rfl⟩))) hn hu
 | @key v s n u ks c h=>
  intro hok z w hs;obtain⟨_,hz,_,_,hn,hu,_⟩:=Cs hok;have hi:inl v.t=false:=by rw [h.1];decide
  have ho:ownW w v=v.w:=by unfold ownW;rw [if_neg (by rw [hi];decide)]
  have ht:=S5 hs h (hz rfl) (y:=(v.w:Int)) (by rw [h.2.1];decide);rw [ho,h.1];exact .txt n u ks c ht (hP.key hs h (hz rfl) (by rw [h.2.1];decide))
 | @str v s n u ks c h=>
  intro hok z w hs;have hi:inl v.t=false:=by rw [h.1];decide
  have ho:ownW w v=v.w:=by unfold ownW;rw [if_neg (by rw [hi];decide)]
  rw [ho];exact .txt n u ks c (Q8 hs (.inl ⟨rfl,h⟩) hL) (hP.text hs (.inl h))
 | @blob v s n u ks c h=>
  intro hok z w hs;have hi:inl v.t=false:=by rw [h.1];decide
  have ho:ownW w v=v.w:=by unfold ownW;rw [if_neg (by rw [hi];decide)]
  rw [ho];exact .txt n u ks c (Q8 hs (.inr ⟨rfl,h⟩) hL) (hP.text hs (.inr h))
 | @indInt v n u s ks c h=>
  intro hok z w hs;obtain⟨_,_,_,_,hn,hu,_⟩:=Cs hok;obtain⟨h1,h2,h3,h4,_,h5⟩:=T4 (k:=8) hs (.inl ⟨rfl,h⟩) hn hu;have ho:ownW w v=v.w:=by unfold ownW;rw [if_neg (by rw [show inl v.t=false from h2];decide)]
  rw [ho];exact .num s ks c h1 h2 h3 (.inl rfl) h4 h5 (hP.num (n:=n) (u:=u) hs (.inl h) hn hu)
 | @indUint v u n s ks c h=>
  intro hok z w hs;obtain⟨_,_,_,_,hn,hu,_⟩:=Cs hok;obtain⟨h1,h2,h3,h4,_,h5⟩:=T4 (k:=9) hs (.inr ⟨rfl,h⟩) hn hu;have ho:ownW w v=v.w:=by unfold ownW;rw [if_neg (by rw [show inl v.t=false from h2];decide)]
  rw [ho];exact .num s ks c h1 h2 h3 (.inr rfl) h4 h5 (hP.num (n:=n) (u:=u) hs (.inr h) hn hu)
 | @ints v c n u s ks h=>
  intro hok z w hs;obtain⟨ht,hw⟩:=h.width;have hl:=Ks h hL [] rfl (.inr ⟨.inl rfl,rfl⟩);simp only [List.nil_append,List.length_nil] at hl;have hi:inl v.t=false:=by rw [ht];decide
  have hg:Bc (v.t:Int)=true:=by rw [ht];decide
  exact Hz n u s ks hs hi hg hw (by rw [ht];decide) (by omega) (hP.vec hs (hs.leads hi hg hw) hl (ht▸h) (by rw [ht];decide) (by rw [ht];decide) (Nt (K:=3) (tf:=1) (Ez hok (K:=3) (by decide) (by decide)) (by rw [ht];decide) (fun _=>rfl) (fun _=> .inr (.inr (.inl ⟨rfl,rfl⟩))))) (J7 (T:=1) hl (hs.leads hi hg hw) (by rw [ht];decide) (by rw [ht];decide) (Ez hok (K:=3) (by decide) (by decide)) (fun _=>rfl) (fun _=> .inr (.inr (.inl ⟨rfl,rfl⟩))))
 | @uints v c n u s ks h=>
  intro hok z w hs;obtain⟨ht,hw⟩:=h.width;have hl:=Ks h hL [] rfl (.inr ⟨.inr (.inl rfl),rfl⟩);simp only [List.nil_append,List.length_nil] at hl;have hi:inl v.t=false:=by rw [ht];decide
  have hg:Bc (v.t:Int)=true:=by rw [ht];decide
  exact Hz n u s ks hs hi hg hw (by rw [ht];decide) (by omega) (hP.vec hs (hs.leads hi hg hw) hl (ht▸h) (by rw [ht];decide) (by rw [ht];decide) (Nt (K:=4) (tf:=2) (Ez hok (K:=4) (by decide) (by decide)) (by rw [ht];decide) (fun _=>rfl) (fun _=> .inr (.inr (.inr ⟨rfl,rfl⟩))))) (J7 (T:=2) hl (hs.leads hi hg hw) (by rw [ht];decide) (by rw [ht];decide) (Ez hok (K:=4) (by decide) (by decide)) (fun _=>rfl) (fun _=> .inr (.inr (.inr ⟨rfl,rfl⟩))))
 | @bools v c n u s ks h=>
  intro hok z w hs;obtain⟨ht,hw⟩:=h.width;have hl:=Ks h hL [] rfl (.inr ⟨.inr (.inr (.inr rfl)),rfl⟩);simp only [List.nil_append,List.length_nil] at hl;have hi:inl v.t=false:=by rw [ht];decide
  have hg:Bc (v.t:Int)=true:=by rw [ht];decide
  exact Hz n u s ks hs hi hg hw (by rw [ht];decide) (by omega) (hP.vec hs (hs.leads hi hg hw) hl (ht▸h) (by rw [ht];decide) (by rw [ht];decide) (Nt (K:=2) (tf:=26) (Ez hok (K:=2) (by decide) (by decide)) (by rw [ht];decide) (fun _=>rfl) (fun _=> .inr (.inl ⟨rfl,rfl⟩)))) (J7 (T:=26) hl (hs.leads hi hg hw) (by rw [ht];decide) (by rw [ht];decide) (Ez hok (K:=2) (by decide) (by decide)) (fun _=>rfl) (fun _=> .inr (.inl ⟨rfl,rfl⟩)))
 | @keys v c vs n u s ks hk h=>
  intro hok z w hs;obtain⟨ht,hw⟩:=h.width;have hl:=Ks h hL [] rfl (.inr ⟨.inr (.inr (.inl rfl)),rfl⟩);simp only [List.nil_append,List.length_nil] at hl;have hi:inl v.t=false:=by rw [ht];decide
  have hg:Bc (v.t:Int)=true:=by rw [ht];decide
  have htag:Ce (v.t:Int)=false:=by rw [ht];decide
  refine Hz n u s ks hs hi hg hw (by rw [ht];decide) (by omega) (hP.vec hs (hs.leads hi hg hw) hl (ht▸h) (by rw [ht];decide) (by rw [ht];decide) (Z5 hk (by rw [ht];decide))) (O0 hl (hs.leads hi hg hw) (by rw [hk.1,List.length_map]) (fun e=>by rw [htag] at e;cases e) (fun i y x hy hx hsl=>?_));rw [if_neg (by rw [htag];decide),if_neg (by rw [htag];decide),show D4 (v.t:Int)=4 by rw [ht];decide];obtain⟨h1,h2⟩:=Ez hok (K:=5) (by decide) (by decide) x (List.mem_of_getElem? hx);have h3:=hk.2 i x.s y (by rw [List.getElem?_map,hx];rfl) hy;obtain⟨xk,xn,xu,xs,xks,xl⟩:=x;have h1:xk=5:=h1;subst h1;exact .txt xn xu xks xl (S5 hsl h3 ((Cs h2).2.1 rfl) hw) (hP.key hsl h3 ((Cs h2).2.1 rfl) hw)
 | @fixInts v c n u s ks h=>
  intro hok z w hs;obtain⟨ht,hw⟩:=h.width;have hn:=(Cs hok).2.2.2.1 (.inl rfl);obtain⟨⟨m1,_⟩,⟨m3,m4⟩,_⟩:=Aa5 hn;have hl:=Aaf h hL [] rfl (by rcases hn with h|h|h <;>rw [h] <;>simp) (by rw [List.length_map];exact m1);simp only [List.nil_append,List.length_nil] at hl;have hi:inl v.t=false:=by rw [ht];rcases hn with h|h|h <;>rw [h] <;>decide
  have hg:Bc (v.t:Int)=true:=by rw [ht];rcases hn with h|h|h <;>rw [h] <;>decide
  exact Hz n u s ks hs hi hg hw (by rw [ht];rcases hn with h|h|h <;>rw [h] <;>decide) (by omega) (hP.vec hs (hs.leads hi hg hw) hl (ht▸h) (by rw [ht];rcases hn with h|h|h <;>rw [h] <;>decide) (by rw [ht];rcases hn with h|h|h <;>rw [h] <;>decide) (Nt (K:=3) (tf:=1) (Ez hok (K:=3) (by decide) (by decide)) (by rw [ht];rcases hn with h|h|h <;>rw [h] <;>decide) (fun _=>rfl) (fun _=> .inr (.inr (.inl ⟨rfl,rfl⟩))))) (J7 (T:=1) hl (hs.leads hi hg hw) (by rw [ht];exact m3) (by rw [ht];rcases hn with h|h|h <;>rw [h] <;>decide) (Ez hok (K:=3) (by decide) (by decide)) (fun _=>rfl) (fun _=> .inr (.inr (.inl ⟨rfl,rfl⟩))))
 | @fixUints v c n u s ks h=>
  intro hok z w hs;obtain⟨ht,hw⟩:=h.width;have hn:=(Cs hok).2.2.2.1 (.inr rfl);obtain⟨⟨_,m1⟩,_,⟨m3,m4⟩⟩:=Aa5 hn;have hl:=Aaf h hL [] rfl (by rcases hn with h|h|h <;>rw [h] <;>simp) (by rw [List.length_map];exact m1);simp only [List.nil_append,List.length_nil] at hl;have hi:inl v.t=false:=by rw [ht];rcases hn with h|h|h <;>rw [h] <;>decide
  have hg:Bc (v.t:Int)=true:=by rw [ht];rcases hn with h|h|h <;>rw [h] <;>decide
  exact Hz n u s ks hs hi hg hw (by rw [ht];rcases hn with h|h|h <;>rw [h] <;>decide) (by omega) (hP.vec hs (hs.leads hi hg hw) hl (ht▸h) (by rw [ht];rcases hn with h|h|h <;>rw [h] <;>decide) (by rw [ht];rcases hn with h|h|h <;>rw [h] <;>decide) (Nt (K:=4) (tf:=2) (Ez hok (K:=4) (by decide) (by decide)) (by rw [ht];rcases hn with h|h|h <;>rw [h] <;>decide) (fun _=>rfl) (fun _=> .inr (.inr (.inr ⟨rfl,rfl⟩))))) (J7 (T:=2) hl (hs.leads hi hg hw) (by rw [ht];exact m3) (by rw [ht];rcases hn with h|h|h <;>rw [h] <;>decide) (Ez hok (K:=4) (by decide) (by decide)) (fun _=>rfl) (fun _=> .inr (.inr (.inr ⟨rfl,rfl⟩))))
 | @vec v c vs n u s ks hl hr h ih=>
  intro hok z w hs;obtain⟨ht,hw⟩:=h.width;have hli:=Ks h hL [] rfl (.inl ⟨rfl,rfl⟩);simp only [List.nil_append,List.length_nil] at hli;have hi:inl v.t=false:=by rw [ht];decide
  have hg:Bc (v.t:Int)=true:=by rw [ht];decide
  have htag:Ce (v.t:Int)=true:=by rw [ht];decide
  refine Hz n u s ks hs hi hg hw (by rw [ht];decide) (by omega) (hP.vec hs (hs.leads hi hg hw) hli (ht▸h) (by rw [ht];decide) (by rw [ht];decide) (Ads hl hr (fun x hx=>((Cs hok).1 x hx).1) htag)) (O0 hli (hs.leads hi hg hw) hl (fun _ y hy=>?_) (fun i y x hy hx hsl=>?_))
  ·obtain⟨i,hi,rfl⟩:=List.mem_iff_getElem.1 hy;have hx:c[i]?=some c[i]:=Asq (by omega);obtain⟨g1,g2,_⟩:=(hr i vs[i] c[i] (Asq hi) hx).legal (((Cs hok).1 c[i] (List.getElem_mem _)).1.fix);exact⟨g1,g2⟩
  ·rw [if_pos htag,if_pos htag];exact ih i y x hy hx ((Cs hok).1 x (List.mem_of_getElem? hx)).1 _ _ hsl
 | @map v kv c ks kvs vs n u s hk hv hl hr h ih=>
  intro hok z w hs;obtain⟨ht,hw⟩:=h.width;obtain⟨hkt,hkw⟩:=hv.width;have hki:inl kv.t=false:=by rw [hkt];decide
  have hLi:=Al6 h hki hL [] rfl;have hK:=Ks hv hL [] rfl (.inr ⟨.inr (.inr (.inl rfl)),rfl⟩);have hM:=h.facts hki hL [];simp only [List.nil_append,List.length_nil] at hLi hK hM;have hi:inl v.t=false:=by rw [ht];decide
  have hg:Bc (v.t:Int)=true:=by rw [ht];decide
  have htag:Ce (v.t:Int)=true:=by rw [ht];decide
  have ho:ownW w v=v.w:=by unfold ownW;rw [if_neg (by rw [hi];decide)]
  have hld:=hs.leads hi hg hw;obtain⟨hl1,hl2,hl3⟩:=O0 hLi hld hl (fun _ y hy=>by
   obtain⟨i,hi,rfl⟩:=List.mem_iff_getElem.1 hy;have hx:c[i]?=some c[i]:=Asq (by omega);obtain⟨g1,g2,_⟩:=(hr i vs[i] c[i] (Asq hi) hx).legal (((Cs hok).1 c[i] (List.getElem_mem _)).1.fix);exact⟨g1,g2⟩) (fun i y x hy hx hsl=>by
   rw [if_pos htag,if_pos htag];exact ih i y x hy hx ((Cs hok).1 x (List.mem_of_getElem? hx)).1 _ _ hsl)
  have hksl:ks.length=c.length:=(Cs hok).2.2.2.2.2.2 rfl;have h0:=(Cs hok).2.2.1;obtain⟨e1,e2,e3⟩:=Lr hLi hld;have hPm:=hP.map hs hld hLi hv h (by rw [ht];rfl) (Ads hl hr (fun x hx=>((Cs hok).1 x hx).1) htag);obtain⟨cc,hc,g1,g2,g3,g4,_,_⟩:=hM.head;rw [Nat.zero_add] at g1 g4 e3;have ha:aheadT (v.t:Int)=3:=by rw [ht];decide
  have hF:lsFrom L z w (v.t:Int) (v.w:Int)=cc:=by
   unfold lsFrom;rw [if_pos e1,hld.tg,ha];omega
  have hU:kyU L z w (v.t:Int) (v.w:Int)=kv.w:=by
   unfold kyU;rw [hF];have e:((cc:Int)+(v.w:Int))=((cc+v.w:Nat):Int):=by omega
   rw [e];refine Ox hw g4 ?_;have h8:kv.w≤8:=by rcases B5.1 hkw with h|h|h|h <;>omega
   rcases B5.1 hw with h|h|h|h <;>rw [h] <;>omega
  have hkE:Gh L z w (v.t:Int) (v.w:Int)=0:=by
   unfold Gh;rw [hld.may,if_neg (by decide),if_neg (by rw [ht];decide),e1,if_neg (by decide),hU,if_neg (by rw [hkw];decide)]
  have hkP:Et L z w (v.t:Int) (v.w:Int)=(cc:Int):=by unfold Et;rw [if_pos hkE,hF]
  have hkQ:Eu L z w (v.t:Int) (v.w:Int)=(v.w:Int):=by unfold Eu;rw [if_pos hkE]
  have hkT:J0 L z w (v.t:Int) (v.w:Int)=14:=by unfold J0;rw [if_pos hkE]
  have hkV:Ev L z w (v.t:Int) (v.w:Int)=(kv.w:Int):=by unfold Ev;rw [if_pos hkE,hU]
  have hsk:Cr L cc v.w kv:=⟨hw,by unfold Ca;rw [if_neg (by rw [hki];decide)];exact g1,(⟨fun e=>(by rw [hki] at e;cases e),fun _=>⟨g2,g3⟩⟩:_∧_)⟩;have hKL:=hsk.leads hki (by rw [hkt];decide) hkw;obtain⟨f1,f2,_⟩:=Lr hK hKL;have hPk:P (cc:Int) (v.w:Int) (kv.t:Int) (kv.w:Int):=hP.vec hsk hKL hK (hkt▸hv) (by rw [hkt];decide) (by rw [hkt];decide) (Z5 hk (by rw [hkt];decide));have hkl:kvs.length=ks.length:=hk.1;have e14:(kv.t:Int)=14:=by rw [hkt];rfl
  have hop:opE L z w (v.t:Int) (v.w:Int)=0:=by
   unfold opE;rw [if_neg (by rw [hkE];decide),hkP,hkQ,hkT,hkV,←e14,if_neg (by rw [f1];decide),if_neg];rw [f2,e2,hl,hkl,hksl];simp
  have hke:∀(i:Nat) s',ks[i]?=some s'→Es L (cc:Int) (v.w:Int) (kv.t:Int) (kv.w:Int) i=0∧∃a,Sq L (Ij L (cc:Int) (v.w:Int) (kv.t:Int) (kv.w:Int) i) (Ik L (cc:Int) (v.w:Int) (kv.t:Int) (kv.w:Int) i) (Ih L (cc:Int) (v.w:Int) (kv.t:Int) (kv.w:Int) i) (Il L (cc:Int) (v.w:Int) (kv.t:Int) (kv.w:Int) i) 5 s' a∧P (Ij L (cc:Int) (v.w:Int) (kv.t:Int) (kv.w:Int) i) (Ik L (cc:Int) (v.w:Int) (kv.t:Int) (kv.w:Int) i) (Ih L (cc:Int) (v.w:Int) (kv.t:Int) (kv.w:Int) i) (Il L (cc:Int) (v.w:Int) (kv.t:Int) (kv.w:Int) i):=by
   intro i s' hs';have hil:i<kvs.length:=by rw [hkl];exact(List.getElem?_eq_some_iff.1 hs').1
   have hy:kvs[i]?=some kvs[i]:=Asq hil;have hk3:=hk.2 i s' kvs[i] hs' hy;have htg:Ce (kv.t:Int)=false:=by rw [hkt];decide
   obtain⟨a1,a2,a3,a4,a5⟩:=Aa3 hK hKL hy (fun h=>by rw [htg] at h;cases h);rw [if_neg (by rw [htg];decide)] at a4 a5;rw [Nat.zero_add] at a2;have hq2:=hP.key (hK.slot hy) hk3 (h0 s' (List.mem_of_getElem? hs')) hkw;have hq:=S5 (hK.slot hy) hk3 (h0 s' (List.mem_of_getElem? hs')) hkw;refine⟨a1,kvs[i].n,?_⟩;rw [a2,a3,a4,a5,show D4 (kv.t:Int)=4 by rw [hkt];decide];exact⟨hq,hq2⟩
  rw [ho];have e9:(v.t:Int)=9:=by rw [ht];rfl
  rw [e9] at hPm hl1 hl2 hl3 hkE hkP hkQ hkT hkV hop⊢;have hdm:=hld.may;have hdt:=hld.tgE;rw [e9] at hdm hdt;have hkt':=hKL.tgE;rw [e14] at hkt' f1 f2 hke hPk;refine .map n u s hdm hdt hl1 hksl hkE hop ?_ ⟨hPm,by rw [hkP,hkQ,hkV];exact hPk⟩ ?_ hl2 hl3
  ·rw [hkP,hkQ,hkV];exact⟨hkT,hkt',f1,by rw [f2,hkl,hksl]⟩
  ·rw [hkP,hkQ,hkV];exact hke
theorem Ali{P:Int→Int→Int→Int→Prop}{T:Tr}(hv:Gw T)(hN:F8 T){b:List UInt8}{v:Bv}{w:Nat}(hr:D8 b v (Bf T))(hw:Av (w:Int)=true)(hb:b.length≤65000)(hf:Cb v b.length 0 w=true)(hP:Ae7 (Di b v w) P):
  Hp (Di b v w) P ((An w b).length:Int) (w:Int) (v.t:Int) (ownW w v:Int) (Bf T):=by
 have hlm:(Di b v w).length<2^32:=by
  have h1:=Ss [] b v w;have h2:=Jm b (B5.2 (B5.1 hw));have h3:w≤8:=by rcases B5.1 hw with h|h|h|h <;>omega
  simp only [List.nil_append,List.length_nil] at h1;omega
 have hs:=Z1 hw (by omega) hf;have hd:∃m,Di b v w=b++m:=⟨_,by unfold Di An;rw [Asx,Asx]⟩;obtain⟨m,em⟩:=hd;refine Apf hP ?_ hlm (Aef hv hN) _ _ hs;rw [em];exact hr.app m
end Go.Proofs.YtgbjodnegkbfoaaGreat
