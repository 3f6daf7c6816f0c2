/- Parts of the proof. -/
import Derived.Test.YtgbjodnegkbfoaaGreatQa29
import Derived.ScopeJumps
import Derived.WalkMore
import Derived.Deep.DeepCutAuto
set_option maxHeartbeats 2000000
set_option maxRecDepth 100000
open Go.Value renaming int→Aa
open Go.IntKind renaming i64→Ab
open List renaming length_append→Atj,append_assoc→Ato
open Nat renaming le_succ→Atk
namespace Go.Proofs.YtgbjodnegkbfoaaGreat
open Go.RowKit Go.Acc
def kyU(l:List UInt8)(p q t v:Int):Nat:=loadU l ((lsFrom l p q t v:Int)+v) v
def Gu(l:List UInt8)(p q t v:Int):Int:=
 if Bm l.length p q t v≠0 then Bm l.length p q t v else if t≠9 then 60 else if Bw l p q t v≠0 then Bw l p q t v else if Av (kyU l p q t v:Int)=false then 212 else 0
def Fi(l:List UInt8)(p q t v:Int):Int:=if Gu l p q t v=0 then lsFrom l p q t v else 0
def Fj(l:List UInt8)(p q t v:Int):Int:=if Gu l p q t v=0 then v else 0
def Lx(l:List UInt8)(p q t v:Int):Int:=if Gu l p q t v=0 then 14 else 0
def Fp(l:List UInt8)(p q t v:Int):Int:=if Gu l p q t v=0 then kyU l p q t v else 0
def KyW(w:World)(l:List UInt8)(p q t v:Int)(e:Ending)(w':World):Prop:=
 e= .returned (.tuple #[.agg #[Aa Ab (Fi l p q t v),Aa Ab (Fj l p q t v),Aa Ab (Lx l p q t v),Aa Ab (Fp l p q t v)],Aa Ab (Gu l p q t v)])∧Below w.heap.size w w'
theorem Ra{w w':World}{l:List UInt8}{p q t v er:Int}(h:Gu l p q t v=er)(hne:er≠0)(hb:Below w.heap.size w w'):KyW w l p q t v (.returned (.tuple #[.agg #[Aa Ab 0,Aa Ab 0,Aa Ab 0,Aa Ab 0],Aa Ab er])) w':=by
 unfold KyW Fi Fj Lx Fp;rw [h,if_neg hne,if_neg hne,if_neg hne,if_neg hne];exact⟨rfl,hb⟩
theorem R4{w w':World}{l:List UInt8}{p q t v a b g:Int}(h:Gu l p q t v=0)(h1:(lsFrom l p q t v:Int)=a)(h2:v=b)(h3:(kyU l p q t v:Int)=g)(hb:Below w.heap.size w w'):KyW w l p q t v (.returned (.tuple #[.agg #[Aa Ab a,Aa Ab b,Aa Ab 14,Aa Ab g],Aa Ab 0])) w':=by
 unfold KyW Fi Fj Lx Fp;rw [h,if_pos rfl,if_pos rfl,if_pos rfl,if_pos rfl,h1,h3,←h2];exact⟨rfl,hb⟩
theorem Aa7(l:List UInt8)(p q t v:Int):(Bm l.length p q t v≠0∧Gu l p q t v=Bm l.length p q t v)∨(Bm l.length p q t v=0∧((t≠9∧Gu l p q t v=60)∨(t=9∧
  ((Bw l p q t v≠0∧Gu l p q t v=Bw l p q t v)∨(Bw l p q t v=0∧((Av (kyU l p q t v:Int)=false∧Gu l p q t v=212)∨(Av (kyU l p q t v:Int)=true∧Gu l p q t v=0))))))):=by
 unfold Gu;by_cases h1:Bm l.length p q t v=0
 ·refine .inr ⟨h1,?_⟩;rw [if_neg (by simpa using h1)];by_cases h2:t=9
  ·refine .inr ⟨h2,?_⟩;rw [if_neg (by simpa using h2)];by_cases h3:Bw l p q t v=0
   ·refine .inr ⟨h3,?_⟩;rw [if_neg (by simpa using h3)];cases h4:Av (kyU l p q t v:Int) with
    |false=>exact .inl ⟨rfl,if_pos rfl⟩
    |true=>exact .inr ⟨rfl,if_neg (by decide)⟩
   ·rw [if_pos h3];exact .inl ⟨h3,rfl⟩
  ·rw [if_pos h2];exact .inl ⟨h2,rfl⟩
 ·rw [if_pos h1];exact .inl ⟨h1,rfl⟩
theorem Apt(l:List UInt8)(a x:Int):(loadU l a x:Int)<18446744073709551616:=by
 unfold loadU;split
 ·rename_i h;have h1:=Ck.1 h.1;have hl:=Aba ((l.drop a.toNat).take x.toNat);have h8:((l.drop a.toNat).take x.toNat).length≤8:=by
   have:=List.length_take_le x.toNat (l.drop a.toNat);omega
  have:=Nat.pow_le_pow_right (n:=2) (by omega) (Nat.mul_le_mul_left 8 h8);omega
 ·omega
theorem Agk(A:Option Addr)(n c:Nat)(p q t v:Int)(l:List UInt8)(w:World)(h:Cw w A n l)(hc:n≤c)(hn:n≤1099511627776):
  Calls Tryz.prog 93 #[.slice A n c,.agg #[Aa Ab p,Aa Ab q,Aa Ab t,Aa Ab v]] w (KyW w l p q t v):=by
 have hlen:=h.1;subst hlen;have HL:=Hd ((h.alloc (.cells #[Aa Ab p,Aa Ab q,Aa Ab t,Aa Ab v] 75)).alloc (.cells #[Aa Ab 0,Aa Ab 0,Aa Ab 0,Aa Ab 0] 75));have HB:=Hd (((Below.refl w.heap.size w).alloc (Nat.le_refl _) (.cells #[Aa Ab p,Aa Ab q,Aa Ab t,Aa Ab v] 75)).alloc (by simp) (.cells #[Aa Ab 0,Aa Ab 0,Aa Ab 0,Aa Ab 0] 75));have HX:=Hd ((Af.new w 75 #[Aa Ab p,Aa Ab q,Aa Ab t,Aa Ab v]).alloc (.cells #[Aa Ab 0,Aa Ab 0,Aa Ab 0,Aa Ab 0] 75));have HR:=Hd (Af.new_ (w:=w.alloc (.cells #[Aa Ab p,Aa Ab q,Aa Ab t,Aa Ab v] 75)) (g:=w.heap.size+1) (by simp) 75 #[Aa Ab 0,Aa Ab 0,Aa Ab 0,Aa Ab 0]);have hcs:=Aa7 l p q t v;clear h;go_enter Tryz.func93,Tryz.ntmps93;go_wp2_with fail;go_at_call 123;refine(M4 A _ c p q t v _ (by omega)).mono ?_;generalize (w.alloc (.cells #[Aa Ab p,Aa Ab q,Aa Ab t,Aa Ab v] 75)).alloc (.cells #[Aa Ab 0,Aa Ab 0,Aa Ab 0,Aa Ab 0] 75)=wB at HL HB HX HR⊢;have x0:=Az HX.o;have x1:=Ax HX.o;have x2:=Aw HX.o;have x3:=A6 HX.o;rintro e w1 ⟨rfl,hb⟩;clear x0 x1 x2 x3;replace HB:=Hd (Ad HB.o hb);replace HX:=Hd (HX.o.pure hb);replace HR:=Hd (HR.o.pure hb);replace HL:=Hd (HL.o.pure hb);clear hb;have x0:=Az HX.o;have x1:=Ax HX.o;have x2:=Aw HX.o;have x3:=A6 HX.o;rcases hcs with⟨hm,he⟩|⟨hm,hcs⟩
 ·have HE:=Hd he;have HN:=Hd hm;have hne:(Bm l.length p q t v != 0)=true:=by simpa using hm
  clear he hm;obtain ⟨r0,r1,r2,r3⟩:=HR.o.c4;have f0:=HR.o.frozen 0;have f1:=HR.o.frozen 1;have f2:=HR.o.frozen 2;have f3:=HR.o.frozen 3;go_wp2;refine bodyPost_ret (v:= .tuple #[.agg #[Aa Ab 0,Aa Ab 0,Aa Ab 0,Aa Ab 0],Aa Ab (Bm l.length p q t v)]) (by simp [results,Tryz.results93,go_sem,r0,r1,r2,r3]) rfl ?_;exact Ra HE.o HN.o (Dj _ HB.o (Atk _) _ _ _ _)
 ·rw [hm];clear hm;rcases hcs with⟨h9,he⟩|⟨rfl,hcs⟩
  ·have HE:=Hd he;have HN:=Hd (show(60:Int)≠0 by decide);have hne:(t != 9)=true:=by simpa using h9
   clear he h9;obtain ⟨r0,r1,r2,r3⟩:=HR.o.c4;have f0:=HR.o.frozen 0;have f1:=HR.o.frozen 1;have f2:=HR.o.frozen 2;have f3:=HR.o.frozen 3;go_wp2;refine bodyPost_ret (v:= .tuple #[.agg #[Aa Ab 0,Aa Ab 0,Aa Ab 0,Aa Ab 0],Aa Ab 60]) (by simp [results,Tryz.results93,go_sem,r0,r1,r2,r3]) rfl ?_;exact Ra HE.o HN.o (Dj _ HB.o (Atk _) _ _ _ _)
  ·have HCS:=Hd hcs;clear hcs;go_wp2_with fail;go_at_call 173;refine(U5 A _ c p q 9 v l _ HL.o hc hn).mono ?_;rintro e w2 ⟨rfl,hb⟩;clear x0 x1 x2 x3;replace HB:=Hd (Ad HB.o hb);replace HX:=Hd (HX.o.pure hb);replace HR:=Hd (HR.o.pure hb);replace HL:=Hd (HL.o.pure hb);clear hb;have x0:=Az HX.o;have x1:=Ax HX.o;have x2:=Aw HX.o;have x3:=A6 HX.o;rcases HCS.o with⟨hs,he⟩|⟨hs,hcs⟩
   ·have HE:=Hd he;have HN:=Hd hs;have hne:(Bw l p q 9 v != 0)=true:=by simpa using hs
    clear he hs HCS;obtain ⟨r0,r1,r2,r3⟩:=HR.o.c4;have f0:=HR.o.frozen 0;have f1:=HR.o.frozen 1;have f2:=HR.o.frozen 2;have f3:=HR.o.frozen 3;go_wp2;refine bodyPost_ret (v:= .tuple #[.agg #[Aa Ab 0,Aa Ab 0,Aa Ab 0,Aa Ab 0],Aa Ab (Bw l p q 9 v)]) (by simp [results,Tryz.results93,go_sem,r0,r1,r2,r3]) rfl ?_;exact Ra HE.o HN.o (Dj _ HB.o (Atk _) _ _ _ _)
   ·obtain⟨_,_,hW,_⟩:=Zd hs;have hv:=Ck.1 hW;rw [hs];obtain⟨V,rfl⟩:∃V:Nat,v=V:=⟨v.toNat,by omega⟩;obtain⟨e1,e2,e3,_⟩:=Aj6 hs;obtain⟨nf,hnf⟩:∃x,lsFrom l p q 9 V=x:=⟨_,rfl⟩;obtain⟨U,hU⟩:∃U,kyU l p q 9 V=U:=⟨_,rfl⟩;have hnf40:nf≤1099511627776:=by omega
    have HU:=Hd (show loadU l ((nf:Int)+(V:Int)) V=U by rw [←hU,←hnf];rfl);have HKU:=Hd hU;have HNF:=Hd hnf;have hV8:V≤8:=by omega
    rw [hU] at hcs;rw [hnf];have HC2:=Hd hcs;clear hcs hU hnf hs e1 e2 e3 hv hW HCS;rcases HC2.o with⟨hw,he⟩|⟨hw,he⟩
    ·have HE:=Hd he;have HN:=Hd (show(212:Int)≠0 by decide);have hU64:(U:Int)<18446744073709551616:=by rw [←HU.o];exact Apt _ _ _
     have HW:=Hd hw;clear he hw HC2;go_wp2_with fail;go_at_call 167;refine(Km A _ c ((nf:Int)+V) V l _ (E7 l.length ((nf:Int)+V) V) U HL.o hc (by omega) rfl HU.o).mono ?_;rintro e w3 ⟨rfl,hb⟩;clear x0 x1 x2 x3;replace HB:=Hd (Ad HB.o hb);replace HX:=Hd (HX.o.pure hb);replace HR:=Hd (HR.o.pure hb);replace HL:=Hd (HL.o.pure hb);clear hb;have x0:=Az HX.o;have x1:=Ax HX.o;have x2:=Aw HX.o;have x3:=A6 HX.o;go_wp2_with fail;go_at_call 53;refine(Ii ((U:Int) % 4294967296) _).mono ?_;cases hx:Av ((U:Int) % 4294967296) with
     |false=>
      rw [Z0 hx];rintro e w4 ⟨rfl,rfl⟩;clear hx;obtain ⟨r0,r1,r2,r3⟩:=HR.o.c4;have f0:=HR.o.frozen 0;have f1:=HR.o.frozen 1;have f2:=HR.o.frozen 2;have f3:=HR.o.frozen 3;go_wp2;refine bodyPost_ret (v:= .tuple #[.agg #[Aa Ab 0,Aa Ab 0,Aa Ab 0,Aa Ab 0],Aa Ab 212]) (by simp [results,Tryz.results93,go_sem,r0,r1,r2,r3]) rfl ?_;exact Ra HE.o HN.o (Dj _ HB.o (Atk _) _ _ _ _)
     |true=>
      rw [Xk hx];rintro e w4 ⟨rfl,rfl⟩;have hq:¬(U/4294967296=0):=by
       intro h0;have e:(U:Int) % 4294967296=U:=by omega
       rw [e,HW.o] at hx;cases hx
      have hne:(((U:Int)/4294967296) != 0)=true:=by simpa using(show ¬((U:Int)/4294967296=0) by omega)
      clear hx hq;obtain ⟨r0,r1,r2,r3⟩:=HR.o.c4;have f0:=HR.o.frozen 0;have f1:=HR.o.frozen 1;have f2:=HR.o.frozen 2;have f3:=HR.o.frozen 3;go_wp2;refine bodyPost_ret (v:= .tuple #[.agg #[Aa Ab 0,Aa Ab 0,Aa Ab 0,Aa Ab 0],Aa Ab 212]) (by simp [results,Tryz.results93,go_sem,r0,r1,r2,r3]) rfl ?_;exact Ra HE.o HN.o (Dj _ HB.o (Atk _) _ _ _ _)
    ·have hw4:=Ck.1 hw;have HE:=Hd he;clear he hw HC2;have hU4:U=1∨U=2∨U=4∨U=8:=by omega
     clear hw4;rcases hU4 with rfl|rfl|rfl|rfl
     ·go_wp2_with fail;go_at_call 167;refine(Km A _ c ((nf:Int)+V) V l _ (E7 l.length ((nf:Int)+V) V) 1 HL.o hc (by omega) rfl HU.o).mono ?_;rintro e w3 ⟨rfl,hb⟩;clear x0 x1 x2 x3;replace HB:=Hd (Ad HB.o hb);replace HX:=Hd (HX.o.pure hb);replace HR:=Hd (HR.o.pure hb);replace HL:=Hd (HL.o.pure hb);clear hb;have x0:=Az HX.o;have x1:=Ax HX.o;have x2:=Aw HX.o;have x3:=A6 HX.o;go_wp2_with fail;go_at_call 53;refine(Ii 1 _).mono ?_;rw [show Ke 1=0 by decide];rintro e w4 ⟨rfl,rfl⟩;obtain ⟨r0,r1,r2,r3⟩:=HR.o.c4;have f0:=HR.o.frozen 0;have f1:=HR.o.frozen 1;have f2:=HR.o.frozen 2;have f3:=HR.o.frozen 3;go_wp2;refine bodyPost_ret (v:= .tuple #[.agg #[Aa Ab nf,Aa Ab V,Aa Ab 14,Aa Ab 1],Aa Ab 0]) (by simp [results,Tryz.results93,go_sem,r0,r1,r2,r3]) rfl ?_;exact R4 HE.o (by rw [HNF.o]) rfl (by rw [HKU.o];rfl) (Dj _ HB.o (Atk _) _ _ _ _)
     ·go_wp2_with fail;go_at_call 167;refine(Km A _ c ((nf:Int)+V) V l _ (E7 l.length ((nf:Int)+V) V) 2 HL.o hc (by omega) rfl HU.o).mono ?_;rintro e w3 ⟨rfl,hb⟩;clear x0 x1 x2 x3;replace HB:=Hd (Ad HB.o hb);replace HX:=Hd (HX.o.pure hb);replace HR:=Hd (HR.o.pure hb);replace HL:=Hd (HL.o.pure hb);clear hb;have x0:=Az HX.o;have x1:=Ax HX.o;have x2:=Aw HX.o;have x3:=A6 HX.o;go_wp2_with fail;go_at_call 53;refine(Ii 2 _).mono ?_;rw [show Ke 2=0 by decide];rintro e w4 ⟨rfl,rfl⟩;obtain ⟨r0,r1,r2,r3⟩:=HR.o.c4;have f0:=HR.o.frozen 0;have f1:=HR.o.frozen 1;have f2:=HR.o.frozen 2;have f3:=HR.o.frozen 3;go_wp2;refine bodyPost_ret (v:= .tuple #[.agg #[Aa Ab nf,Aa Ab V,Aa Ab 14,Aa Ab 2],Aa Ab 0]) (by simp [results,Tryz.results93,go_sem,r0,r1,r2,r3]) rfl ?_;exact R4 HE.o (by rw [HNF.o]) rfl (by rw [HKU.o];rfl) (Dj _ HB.o (Atk _) _ _ _ _)
     ·go_wp2_with fail;go_at_call 167;refine(Km A _ c ((nf:Int)+V) V l _ (E7 l.length ((nf:Int)+V) V) 4 HL.o hc (by omega) rfl HU.o).mono ?_;rintro e w3 ⟨rfl,hb⟩;clear x0 x1 x2 x3;replace HB:=Hd (Ad HB.o hb);replace HX:=Hd (HX.o.pure hb);replace HR:=Hd (HR.o.pure hb);replace HL:=Hd (HL.o.pure hb);clear hb;have x0:=Az HX.o;have x1:=Ax HX.o;have x2:=Aw HX.o;have x3:=A6 HX.o;go_wp2_with fail;go_at_call 53;refine(Ii 4 _).mono ?_;rw [show Ke 4=0 by decide];rintro e w4 ⟨rfl,rfl⟩;obtain ⟨r0,r1,r2,r3⟩:=HR.o.c4;have f0:=HR.o.frozen 0;have f1:=HR.o.frozen 1;have f2:=HR.o.frozen 2;have f3:=HR.o.frozen 3;go_wp2;refine bodyPost_ret (v:= .tuple #[.agg #[Aa Ab nf,Aa Ab V,Aa Ab 14,Aa Ab 4],Aa Ab 0]) (by simp [results,Tryz.results93,go_sem,r0,r1,r2,r3]) rfl ?_;exact R4 HE.o (by rw [HNF.o]) rfl (by rw [HKU.o];rfl) (Dj _ HB.o (Atk _) _ _ _ _)
     ·go_wp2_with fail;go_at_call 167;refine(Km A _ c ((nf:Int)+V) V l _ (E7 l.length ((nf:Int)+V) V) 8 HL.o hc (by omega) rfl HU.o).mono ?_;rintro e w3 ⟨rfl,hb⟩;clear x0 x1 x2 x3;replace HB:=Hd (Ad HB.o hb);replace HX:=Hd (HX.o.pure hb);replace HR:=Hd (HR.o.pure hb);replace HL:=Hd (HL.o.pure hb);clear hb;have x0:=Az HX.o;have x1:=Ax HX.o;have x2:=Aw HX.o;have x3:=A6 HX.o;go_wp2_with fail;go_at_call 53;refine(Ii 8 _).mono ?_;rw [show Ke 8=0 by decide];rintro e w4 ⟨rfl,rfl⟩;obtain ⟨r0,r1,r2,r3⟩:=HR.o.c4;have f0:=HR.o.frozen 0;have f1:=HR.o.frozen 1;have f2:=HR.o.frozen 2;have f3:=HR.o.frozen 3;go_wp2;refine bodyPost_ret (v:= .tuple #[.agg #[Aa Ab nf,Aa Ab V,Aa Ab 14,Aa Ab 8],Aa Ab 0]) (by simp [results,Tryz.results93,go_sem,r0,r1,r2,r3]) rfl ?_;exact R4 HE.o (by rw [HNF.o]) rfl (by rw [HKU.o];rfl) (Dj _ HB.o (Atk _) _ _ _ _)
def opE(l:List UInt8)(p q t v:Int):Int:=
 if Gu l p q t v≠0 then Gu l p q t v else if Bw l (Fi l p q t v) (Fj l p q t v) (Lx l p q t v) (Fp l p q t v)≠0 then Bw l (Fi l p q t v) (Fj l p q t v) (Lx l p q t v) (Fp l p q t v) else if lsLen l p q t v≠lsLen l (Fi l p q t v) (Fj l p q t v) (Lx l p q t v) (Fp l p q t v) then 214 else 0
theorem Aas(A:Option Addr)(n c:Nat)(p q t v a b d g er:Int)(l:List UInt8)(w:World)(h:Cw w A n l)(hc:n≤c)(hn:n≤1099511627776)(h1:Fi l p q t v=a)(h2:Fj l p q t v=b)(h3:Lx l p q t v=d)(h4:Fp l p q t v=g)(h5:Gu l p q t v=er):
  Calls Tryz.prog 93 #[.slice A n c,.agg #[Aa Ab p,Aa Ab q,Aa Ab t,Aa Ab v]] w fun e w'=>e= .returned (.tuple #[.agg #[Aa Ab a,Aa Ab b,Aa Ab d,Aa Ab g],Aa Ab er])∧Below w.heap.size w w':=by
 subst h1 h2 h3 h4 h5;exact Agk A n c p q t v l w h hc hn
theorem Ag0{w:World}{g i g' j:Nat}{u v:Value}(h:w.cell? ⟨g,i,none⟩=some v)(hne:g≠g'):(w.setCell ⟨g',j,none⟩ u).cell? ⟨g,i,none⟩=some v:=Tf h hne
theorem Vm{l:List UInt8}{p q t v:Int}(h:Bh l p q t v=0):0≤Bg l p q t v∧Bg l p q t v≤l.length:=by
 have hm:Bm l.length p q t v=0:=by
  by_cases e:Bm l.length p q t v=0
  ·exact e
  ·rw [Nb e] at h;exact absurd h e
 obtain⟨_,h2⟩:=D7.1 hm;obtain⟨h1,_⟩:=D7.1 hm;have h2:=Dn.1 h2;have h1:=Cv.1 h1;have hq:=Ck.1 h1.2.1;unfold Bh at h;rw [if_pos hm] at h;unfold Bg;have h':Bh l p q t v=0:=by unfold Bh;rw [if_pos hm];exact h
 rw [if_pos h'];split at h
 ·cases h
 ·split at h
  ·cases h
  ·omega
def Nl(t:Int):Bool:=(rdF t).isSome
theorem Ajj{t:Int}(h:An t=true):Nl t=true:=by
 have:=Gv (Mw h);revert h;refine K6 (p:=fun t=>An t=true→Nl t=true) ?_ this;decide
def Dd(l:List UInt8)(p q t v:Int):Int:=
 if Bm l.length p q t v≠0 then Bm l.length p q t v
 else if Nl t=false then 60
 else if An t=true then 0
 else if Bh l p q t v≠0 then Bh l p q t v
 else if Bg l p q t v % v≠0 then 212
 else if Gs l.length (Bg l p q t v) v=false then 211 else 0
def Fm(l:List UInt8)(p q t v:Int):Int:=if Dd l p q t v=0 then(if An t=true then p else Bg l p q t v) else 0
def Fy(l:List UInt8)(p q t v:Int):Int:=if Dd l p q t v=0 then(if An t=true then q else v) else 0
def Zj(w:World)(l:List UInt8)(p q t v:Int)(e:Ending)(w':World):Prop:=
 e= .returned (.tuple #[Aa Ab (Fm l p q t v),Aa Ab (Fy l p q t v),Aa Ab (Dd l p q t v)])∧Below w.heap.size w w'
theorem Oi{w w':World}{l:List UInt8}{p q t v er:Int}(h:Dd l p q t v=er)(hne:er≠0)(hb:Below w.heap.size w w'):Zj w l p q t v (.returned (.tuple #[Aa Ab 0,Aa Ab 0,Aa Ab er])) w':=by
 unfold Zj Fm Fy;rw [h,if_neg hne,if_neg hne];exact⟨rfl,hb⟩
theorem Abv{w w':World}{l:List UInt8}{p q t v a x:Int}(h:Dd l p q t v=0)(ha:(if An t=true then p else Bg l p q t v)=a)(hx:(if An t=true then q else v)=x)(hb:Below w.heap.size w w'):Zj w l p q t v (.returned (.tuple #[Aa Ab a,Aa Ab x,Aa Ab 0])) w':=by
 unfold Zj Fm Fy;rw [h,if_pos rfl,if_pos rfl,ha,hx];exact⟨rfl,hb⟩
theorem Rj(l:List UInt8)(p q t v:Int):(Bm l.length p q t v≠0∧Dd l p q t v=Bm l.length p q t v)∨(Bm l.length p q t v=0∧
  ((Nl t=false∧Dd l p q t v=60)∨(Nl t=true∧An t=true∧Dd l p q t v=0)∨(Nl t=true∧An t=false∧
   ((Bh l p q t v≠0∧Dd l p q t v=Bh l p q t v)∨(Bh l p q t v=0∧Bg l p q t v % v≠0∧Dd l p q t v=212)∨(Bh l p q t v=0∧Bg l p q t v % v=0∧Gs l.length (Bg l p q t v) v=false∧Dd l p q t v=211)∨
    (Bh l p q t v=0∧Bg l p q t v % v=0∧Gs l.length (Bg l p q t v) v=true∧Dd l p q t v=0))))):=by
 unfold Dd;by_cases h1:Bm l.length p q t v=0
 ·refine .inr ⟨h1,?_⟩;rw [if_neg (by simpa using h1)];cases h2:Nl t with
  |false=>exact .inl ⟨rfl,if_pos rfl⟩
  |true=>
   rw [if_neg (by decide)];cases h3:An t with
   |true=>exact .inr (.inl ⟨rfl,rfl,if_pos rfl⟩)
   |false=>
    refine .inr (.inr ⟨rfl,rfl,?_⟩);rw [if_neg (by decide)];by_cases h4:Bh l p q t v=0
    ·rw [if_neg (by simpa using h4)];by_cases h5:Bg l p q t v % v=0
     ·rw [if_neg (by simpa using h5)];cases h6:Gs l.length (Bg l p q t v) v with
      |false=>exact .inr (.inr (.inl ⟨h4,h5,rfl,if_pos rfl⟩))
      |true=>exact .inr (.inr (.inr ⟨h4,h5,rfl,if_neg (by decide)⟩))
     ·rw [if_pos h5];exact .inr (.inl ⟨h4,h5,rfl⟩)
    ·rw [if_pos h4];exact .inl ⟨h4,rfl⟩
 ·rw [if_pos h1];exact .inl ⟨h1,rfl⟩
theorem Ami{t:Int}{r:Option (Nat×Value)}(h:r.map (·.2)=rdF t):r.isSome=Nl t:=by
 unfold Nl;rw [←h];cases r <;>rfl
theorem Aq1:∀W:World,(zeroValue 323).run Tryz.prog W= .ok .nilFunc W:=by
 intro W
 kernel_rfl
theorem Aqc(t:Int)(W:World)(g:Nat)(hb:W.heap[g]?=some (.map Ab2 6)):
  (∀b,(Instr.lookup 325 (.map (some g)) (Aa Ab t) b).run Tryz.prog W= .ok (if b then .tuple #[(rdF t).getD .nilFunc,.bool (Nl t)] else(rdF t).getD .nilFunc) W):=by
 intro b;obtain⟨r,h1,h2⟩:=Aqb t;rw [Ts Tryz.underlying325 Tryz.underlying3 .nilFunc Aq1 W Ab2 6 g t b r hb h1,h2,Ami h2]
theorem Adt(A:Option Addr)(n c:Nat)(p q t v:Int)(l:List UInt8)(w:World)(h:Cw w A n l)(hc:n≤c)(hn:n≤9223372036854775807):
  Calls Tryz.prog 188 #[.slice A n c,.agg #[Aa Ab p,Aa Ab q,Aa Ab t,Aa Ab v]] w (Zj w l p q t v):=by
 have hlen:=h.1;subst hlen;have HL:=Hd (h.alloc (.cells #[Aa Ab p,Aa Ab q,Aa Ab t,Aa Ab v] 75));have HB:=Hd ((Below.refl w.heap.size w).alloc (Nat.le_refl _) (.cells #[Aa Ab p,Aa Ab q,Aa Ab t,Aa Ab v] 75));have HX:=Hd (Af.new w 75 #[Aa Ab p,Aa Ab q,Aa Ab t,Aa Ab v]);have hpc:=Rj l p q t v;clear h;go_enter Tryz.func188,Tryz.ntmps188;go_wp2_with fail;go_at_call 123;refine(M4 A _ c p q t v _ hn).mono ?_;have x0:=Az HX.o;have x1:=Ax HX.o;have x2:=Aw HX.o;have x3:=A6 HX.o;rintro e w1 ⟨rfl,hb⟩;clear x0 x1 x2 x3;replace HB:=Hd (Ad HB.o hb);replace HX:=Hd (HX.o.pure hb);replace HL:=Hd (HL.o.pure hb);clear hb;have x0:=Az HX.o;have x1:=Ax HX.o;have x2:=Aw HX.o;have x3:=A6 HX.o;rcases hpc with⟨hm,he⟩|⟨hm,hpc⟩
 ·have HE:=Hd he;have hne:(Bm l.length p q t v != 0)=true:=by simpa using hm
  have HM:=Hd hm;clear he hm;go_wp2;go_ret3;exact Oi HE.o HM.o HB.o
 ·obtain⟨g1,g2⟩:=D7.1 hm;have g2:=Dn.1 g2;have g1:=Cv.1 g1;have v1:=Ck.1 g1.2.2;rw [hm];obtain⟨V,rfl⟩:∃V:Nat,v=V:=⟨v.toNat,by omega⟩;have hv1:1≤V:=by omega
  have hv8:V≤8:=by omega
  have hvz:(V==0)=false:=beq_eq_false_iff_ne.mpr (by omega);clear g1 g2 v1;have HPC:=Hd hpc;have HM:=Hd hm;clear hpc hm;go_wp2_with fail;go_upto_region 4 with fail
  go_cut [8,9] (fun u8 u9 wx=>u9= .bool (Nl t)∧Below w1.heap.size w1 wx)
  case first=>
   go_region_held3 (fun w'=>w'.cell? ⟨w.heap.size,2,none⟩=some (Aa Ab t)) (first|assumption|exact x2|exact Ag HB5.o x2)
    (first|(go_at_call 282;refine(Ab3 _).mono ?_;rintro e w5 ⟨g,rfl,hg,hb5⟩;have HB5:=Hd hb5;have hlk:=Aqc t w5 g hg;clear hb5 hg))
   go_wp2_with fail;go_meet;exact⟨rfl,Ad (Below.refl _ _).drew HB5.o⟩
  case rest=>
   obtain⟨rfl,hb⟩:=hcut;clear x0 x1 x2 x3;replace HB:=Hd (Ad HB.o hb);replace HX:=Hd (HX.o.pure hb);replace HL:=Hd (HL.o.pure hb);clear hb;have x0:=Az HX.o;have x1:=Ax HX.o;have x2:=Aw HX.o;have x3:=A6 HX.o;rcases HPC.o with⟨h1,he⟩|⟨h1,h2,he⟩|⟨h1,h2,hpc⟩
   ·have HE:=Hd he;rw [h1];clear he h1 HPC;go_wp2;go_ret3;exact Oi HE.o (by decide) HB.o
   ·have HE:=Hd he;have HI:=Hd h2;rw [h1];clear he h1 HPC h2;go_wp2_with fail;go_at_call 90;refine(Ce t _).mono ?_;rw [HI.o];rintro e w2 ⟨rfl,hb⟩;clear x0 x1 x2 x3;replace HB:=Hd (Ad HB.o hb);replace HX:=Hd (HX.o.pure hb);replace HL:=Hd (HL.o.pure hb);clear hb;have x0:=Az HX.o;have x1:=Ax HX.o;have x2:=Aw HX.o;have x3:=A6 HX.o;go_wp2_with fail;go_quiet (fail);go_wp2;go_ret3;exact Abv HE.o (if_pos HI.o) (if_pos HI.o) (below_drewN HB.o _)
   ·have HI:=Hd h2;have HP:=Hd hpc;rw [h1];clear h1 HPC h2 hpc;go_wp2_with fail;go_at_call 90;refine(Ce t _).mono ?_;rw [HI.o];rintro e w2 ⟨rfl,hb⟩;clear x0 x1 x2 x3;replace HB:=Hd (Ad HB.o hb);replace HX:=Hd (HX.o.pure hb);replace HL:=Hd (HL.o.pure hb);clear hb;have x0:=Az HX.o;have x1:=Ax HX.o;have x2:=Aw HX.o;have x3:=A6 HX.o;go_wp2_with fail;go_at_call 91;refine(G2 A _ c p q t V l _ HL.o hc hn).mono ?_;rintro e w3 ⟨rfl,hb⟩;clear x0 x1 x2 x3;replace HB:=Hd (Ad HB.o hb);replace HX:=Hd (HX.o.pure hb);replace HL:=Hd (HL.o.pure hb);clear hb;have x0:=Az HX.o;have x1:=Ax HX.o;have x2:=Aw HX.o;have x3:=A6 HX.o;rcases HP.o with⟨h1,he⟩|⟨h0,h5,he⟩|⟨h0,h5,h6,he⟩|⟨h0,h5,h6,he⟩
    ·have hne:(Bh l p q t V != 0)=true:=by simpa using h1
     have HE:=Hd he;have HN:=Hd h1;clear h1 he HP;go_wp2;go_ret3;exact Oi HE.o HN.o HB.o
    ·have HE:=Hd he;have htr:=Vm h0;rw [h0];obtain⟨a,ha⟩:∃a:Nat,Bg l p q t V=a:=⟨(Bg l p q t V).toNat,by omega⟩;rw [ha] at h5⊢;have hm2:((a:Int) % (V:Int) != 0)=true:=by simpa using h5
     clear h0 h5 he HP ha htr;go_wp2;go_ret3;exact Oi HE.o (by decide) HB.o
    ·have HE:=Hd he;have htr:=Vm h0;rw [h0];obtain⟨a,ha⟩:∃a:Nat,Bg l p q t V=a:=⟨(Bg l p q t V).toNat,by omega⟩;rw [ha] at h5 h6⊢;have hm2:((a:Int) % (V:Int) != 0)=false:=by simpa using h5
     have HIN:=Hd h6;clear h0 h5 h6 he HP ha htr;go_wp2_with fail;go_at_call 206;refine(Da A _ c a V _ hn).mono ?_;rw [HIN.o];rintro e w4 ⟨rfl,rfl⟩;go_wp2;go_ret3;exact Oi HE.o (by decide) HB.o
    ·have HE:=Hd he;have htr:=Vm h0;rw [h0];obtain⟨a,ha⟩:∃a:Nat,Bg l p q t V=a:=⟨(Bg l p q t V).toNat,by omega⟩;have HTA:=Hd ha;rw [ha] at h5 h6⊢;have hm2:((a:Int) % (V:Int) != 0)=false:=by simpa using h5
     have HIN:=Hd h6;clear h0 h5 h6 he HP ha htr;go_wp2_with fail;go_at_call 206;refine(Da A _ c a V _ hn).mono ?_;rw [HIN.o];rintro e w4 ⟨rfl,rfl⟩;go_wp2_with fail;go_quiet (fail);go_wp2;go_ret3;exact Abv HE.o (by rw [if_neg (by rw [HI.o];decide)];exact HTA.o) (if_neg (by rw [HI.o];decide)) (below_drewN HB.o _)
def rdN(l:List UInt8)(t a x:Int):Bool:=decide ((t=1∨t=6)∧Zb l a x<0)
def Sr(l:List UInt8)(t a x:Int):Nat:=if t=0 then 0 else if t=26 then min (loadU l a x) 1 else if t=1∨t=6 then(Zb l a x).natAbs else loadU l a x
def Yl(l:List UInt8)(p q t v:Int):Bool:=decide (Dd l p q t v=0)&&rdN l t (Fm l p q t v) (Fy l p q t v)
def scU(l:List UInt8)(p q t v:Int):Nat:=if Dd l p q t v=0 then Sr l t (Fm l p q t v) (Fy l p q t v) else 0
def Ze(u:Nat):Bool:=decide (9223372036854775808≤u)
def Amr(l:List UInt8)(p q t v:Int):Int:=if Yl l p q t v=true then -(scU l p q t v:Int) else if Ze (scU l p q t v)=true then 0 else scU l p q t v
def Amq(l:List UInt8)(p q t v:Int):Int:=if Dd l p q t v≠0 then Dd l p q t v else if Yl l p q t v=true then 0 else if Ze (scU l p q t v)=true then 10 else 0
def Aho(l:List UInt8)(p q t v:Int):Nat:=if Yl l p q t v=true then 0 else scU l p q t v
def Ahn(l:List UInt8)(p q t v:Int):Int:=if Dd l p q t v≠0 then Dd l p q t v else if Yl l p q t v=true then 10 else 0
def Aku(l:List UInt8)(p q t v:Int):Bool:=(scU l p q t v:Int) != 0
theorem Aru(A:Option Addr)(n c:Nat)(p q t v:Int)(l:List UInt8)(a x er:Int)(w:World)(h:Cw w A n l)(hc:n≤c)(hn:n≤9223372036854775807)(h0:Fm l p q t v=a)(h1:Fy l p q t v=x)(h2:Dd l p q t v=er):
  Calls Tryz.prog 188 #[.slice A n c,.agg #[Aa Ab p,Aa Ab q,Aa Ab t,Aa Ab v]] w fun e w'=>e= .returned (.tuple #[Aa Ab a,Aa Ab x,Aa Ab er])∧Below w.heap.size w w':=by
 subst h0 h1 h2;exact Adt A n c p q t v l w h hc hn
structure Rq where
 p:Int
 q:Int
 t:Int
 v:Int
abbrev P3:=Int×Int×Int
structure Ao where
 left:Int
 had:List P3
 o:List P3
def E6(t:Int):Int:=if t=0 then 1 else if t=1 then 2 else if t=2 then 3 else if t=26 then 4 else 5
def Ao.tell(s:Ao)(a b c:Int):Ao:=if a<b then { s with o:=s.o++ [(a,b,c)]} else s
def Ao.burn(s:Ao):Ao:={ s with left:=s.left-1}
def Ao.see(s:Ao)(x:P3):Ao:={ s with had:=s.had++ [x]}
section
variable (l:List UInt8) (go:Rq→Ao→Ao×Int) (r:Rq)
def C7(s:Ao):Ao×Int:=
 if Dc l r.p r.q r.t r.v [4,5,25]≠0 then(s,Dc l r.p r.q r.t r.v [4,5,25])
 else if r.t=4 then(s.tell (Cm l r.p r.q r.t r.v [4,5,25]) (Cm l r.p r.q r.t r.v [4,5,25]+(D5 l r.p r.q r.t r.v [4,5,25]).length+1) 9,0)
 else if r.t=5 then((s.tell (Cm l r.p r.q r.t r.v [4,5,25]-r.v) (Cm l r.p r.q r.t r.v [4,5,25]) 6).tell (Cm l r.p r.q r.t r.v [4,5,25]) (Cm l r.p r.q r.t r.v [4,5,25]+(D5 l r.p r.q r.t r.v [4,5,25]).length+1) 10,0)
 else((s.tell (Cm l r.p r.q r.t r.v [4,5,25]-r.v) (Cm l r.p r.q r.t r.v [4,5,25]) 6).tell (Cm l r.p r.q r.t r.v [4,5,25]) (Cm l r.p r.q r.t r.v [4,5,25]+(D5 l r.p r.q r.t r.v [4,5,25]).length) 11,0)
def C6(s:Ao):Ao×Int:=
 if Dd l r.p r.q r.t r.v=0 then(s.tell (Fm l r.p r.q r.t r.v) (Fm l r.p r.q r.t r.v+Fy l r.p r.q r.t r.v) (if r.t=6 then 12 else 13),0)
 else(s,Dd l r.p r.q r.t r.v)
def C9:Rq:=⟨Fi l r.p r.q r.t r.v,Fj l r.p r.q r.t r.v,Lx l r.p r.q r.t r.v,Fp l r.p r.q r.t r.v⟩
def Ed(i:Nat):Rq:=⟨I8 l r.p r.q r.t r.v i,I9 l r.p r.q r.t r.v i,Jr l r.p r.q r.t r.v i,Js l r.p r.q r.t r.v i⟩
def Fc(s:Ao):Ao×Int:=
 if Gu l r.p r.q r.t r.v≠0 then(s,Gu l r.p r.q r.t r.v)
 else if(go (C9 l r) s).2≠0 then go (C9 l r) s
 else((go (C9 l r) s).1.tell (lsFrom l r.p r.q r.t r.v+r.v) (lsFrom l r.p r.q r.t r.v+2*r.v) 7,0)
def Dl(i:Nat)(s:Ao):Ao:=
 if Bo r.t=true then s.tell ((lsAt l r.p r.q r.t r.v:Int)+lsLen l r.p r.q r.t r.v*r.v+i) ((lsAt l r.p r.q r.t r.v:Int)+lsLen l r.p r.q r.t r.v*r.v+i+1) 8 else s
def Cj:Nat→Nat→Ao→Ao×Int
 |0,_,s=>(s,0)
 |k+1,i,s=>
  if Ez l r.p r.q r.t r.v i≠0 then(Dl l r i s,Ez l r.p r.q r.t r.v i)
  else if(go (Ed l r i) (Dl l r i s)).2≠0 then go (Ed l r i) (Dl l r i s)
  else Cj k (i+1) (go (Ed l r i) (Dl l r i s)).1
def Gp(s:Ao):Ao:=if lsFrom l r.p r.q r.t r.v<lsAt l r.p r.q r.t r.v then s.tell ((lsAt l r.p r.q r.t r.v:Int)-r.v) (lsAt l r.p r.q r.t r.v) 6 else s
def Cs(s:Ao):Ao×Int:=if r.t=9 then Fc l go r s else(s,0)
def Dy(s:Ao):Ao×Int:=
 if Bw l r.p r.q r.t r.v≠0 then(s,Bw l r.p r.q r.t r.v)
 else if(Cs l go r s).2≠0 then Cs l go r s
 else Cj l go r (lsLen l r.p r.q r.t r.v) 0 (Gp l r (Cs l go r s).1)
def Cy(s:Ao):Ao×Int:=if Fw [4,5,25] r.t=true then C7 l r s else if r.t=6∨r.t=7 then C6 l r s else Dy l go r s
def Ea:P3:=(Bg l r.p r.q r.t r.v,r.t,r.v)
end
def Bq(r:Rq)(s:Ao):Ao:=s.burn.tell r.p (r.p+r.q) (E6 r.t)
def Bl(l:List UInt8):Nat→Rq→Ao→Ao×Int
 |0,_,s=>(s,260)
 |d+1,r,s=>
  if s.left<1 then(s,260)
  else if An r.t=true then(Bq r s,0)
  else if Bh l r.p r.q r.t r.v≠0∨Ea l r∈s.had then(Bq r s,Bh l r.p r.q r.t r.v)
  else Cy l (Bl l d) r ((Bq r s).see (Ea l r))
end Go.Proofs.YtgbjodnegkbfoaaGreat
namespace Go.Proofs.YtgbjodnegkbfoaaGreat
open Go.Acc
inductive E8:List UInt8→List P3→Prop
 |nil:E8 [] []
 |pad {l:List UInt8} {log:List P3} (h:E8 l log) (k:Nat):E8 (l++List.replicate k 0) log
 |part {l:List UInt8} {log:List P3} (h:E8 l log) (m:List UInt8) (hm:m≠ []) (c:Int):E8 (l++m) (log++ [((l.length:Int),((l.length+m.length:Nat):Int),c)])
structure Y9(l:List UInt8)(log:List P3):Prop where
 rg:∀x∈log,0≤x.1∧x.1<x.2.1∧x.2.1≤l.length
 asc:log.Pairwise fun a b=>a.2.1≤b.1
 o:∀(i:Nat) c,l[i]?=some c→c≠0→∃x∈log,x.1≤(i:Int)∧(i:Int)<x.2.1
theorem E8.facts{l:List UInt8}{log:List P3}(h:E8 l log):Y9 l log:=by
 induction h with
 |nil=>exact⟨by simp,List.Pairwise.nil,by simp⟩
 | @pad l log h k ih=>
  refine⟨fun x hx=>?_,ih.asc,fun i c hi hc=>?_⟩
  ·have:=ih.rg x hx;rw [Atj];omega
  ·by_cases hl:i<l.length
   ·rw [List.getElem?_append_left hl] at hi;exact ih.o i c hi hc
   ·rw [List.getElem?_append_right (by omega)] at hi;have:=List.eq_of_mem_replicate (List.mem_of_getElem? hi);exact absurd this hc
 | @part l log h m hm k ih=>
  have h0:0<m.length:=List.length_pos_iff.2 hm;refine⟨fun x hx=>?_,List.pairwise_append.2 ⟨ih.asc,List.pairwise_singleton _ _,fun a ha b hb=>?_⟩,fun i c hi hc=>?_⟩
  ·rw [Atj];rcases List.mem_append.1 hx with hx|hx
   ·have:=ih.rg x hx;omega
   ·rw [List.mem_singleton.1 hx];simp only;omega
  ·rw [List.mem_singleton.1 hb];exact(ih.rg a ha).2.2
  ·by_cases hl:i<l.length
   ·rw [List.getElem?_append_left hl] at hi;obtain⟨x,hx,h1⟩:=ih.o i c hi hc;exact⟨x,List.mem_append_left _ hx,h1⟩
   ·have hi2:=(List.getElem?_eq_some_iff.1 hi).1;rw [Atj] at hi2;refine⟨_,List.mem_append_right _ (List.mem_singleton.2 rfl),?_,?_⟩ <;>simp only <;>omega
def Hz(w:Nat):Nat→List Bv→List P3
 |_,[]=>[]
 |a,v::r=>((a:Int),((a+w:Nat):Int),E6 v.t)::Hz w (a+w) r
def G8:Nat→Nat→List P3
 |_,0=>[]
 |a,n+1=>((a:Int),((a+1:Nat):Int),8)::G8 (a+1) n
theorem Mc{w:Nat}(hw:0<w):∀(vs:List Bv) {l:List UInt8} {log:List P3},E8 l log→E8 (Bn w l vs) (log++Hz w l.length vs)
 | [],l,log,h=>by rw [Bn,Hz,List.append_nil];exact h
 |v::r,l,log,h=>by
  have hm:Ai w (B9 w l.length v)≠ []:=by
   intro e;have:=Aj w (B9 w l.length v);rw [e] at this;exact absurd this (by simp;omega)
  have h1:=Mc hw r (h.part _ hm (E6 v.t));rw [Bn,Hz];rw [Atj,Aj,Ato] at h1;exact h1
theorem Nt{w:Nat}:∀(vs:List Bv) {l:List UInt8} {log:List P3},E8 l log→E8 (l++vs.map (C3 w)) (log++G8 l.length vs.length)
 | [],l,log,h=>by
  rw [List.map_nil,List.append_nil,List.length_nil,G8,List.append_nil];exact h
 |v::r,l,log,h=>by
  have h1:=Nt (w:=w) r (h.part [C3 w v] (by simp) 8);rw [Atj,Ato,Ato] at h1;rw [List.map_cons,List.length_cons,G8];exact h1
def Hv(len tags:Bool)(vs:List Bv)(v:Bv):List P3:=
 (if len=true then [(((v.n-v.w:Nat):Int),(v.n:Int),(6:Int))] else [])++Hz v.w v.n vs++(if tags=true then G8 (v.n+vs.length*v.w) vs.length else [])
def N2(vs:List Bv)(v:Bv):List P3:=
 [(((v.n-3*v.w:Nat):Int),((v.n-2*v.w:Nat):Int),(5:Int)),(((v.n-2*v.w:Nat):Int),((v.n-v.w:Nat):Int),(7:Int)),(((v.n-v.w:Nat):Int),(v.n:Int),(6:Int))]++Hz v.w v.n vs++G8 (v.n+vs.length*v.w) vs.length
theorem M1{w u:Nat}(hw:0<w):Ai w u≠ []:=by
 intro e;have:=Aj w u;rw [e] at this;exact absurd this (by simp;omega)
theorem Acn{b:List UInt8}{log:List P3}(h:E8 b log)(t:Nat)(len tags:Bool){l:List Bv}(hf:∀x∈l,Dx b.length x):E8 (Bc t len tags l b).1 (log++Hv len tags l (Bc t len tags l b).2):=by
 obtain⟨w,hw⟩:∃w,B3 b.length (if len=true then 1 else 0) none l=w:=⟨_,rfl⟩;have hW:Av (w:Int)=true:=by rw [←hw];exact Jv (fun _ e=>by cases e) hf
 have h0:0<w:=by rcases Cc.1 hW with h|h|h|h <;>omega
 have ha:E8 (Ah w b) log:=h.pad _;unfold Hv;simp only [Bc,hw];cases len with
 |true=>
  simp only [if_true];have h1:=ha.part _ (M1 h0 (u:=l.length)) 6;have h2:=Mc h0 l h1;rw [Atj,Aj] at h2⊢;have e:(Ah w b).length+w-w=(Ah w b).length:=by omega
  rw [e];cases tags with
  |true=>
   simp only [if_true];have h3:=Nt (w:=w) l h2;obtain⟨q,eq,hq⟩:=D3 w l (Ah w b++Ai w l.length);have e2:(Bn w (Ah w b++Ai w l.length) l).length=(Ah w b).length+w+l.length*w:=by
    rw [eq,Atj,Atj,Aj,hq,Nat.mul_comm]
   rw [e2] at h3;simpa only [Ato] using h3
  |false=>
   simp only [Bool.false_eq_true,if_false,List.append_nil];simpa only [Ato] using h2
 |false=>
  simp only [Bool.false_eq_true,if_false,List.append_nil,List.nil_append];have h2:=Mc h0 l ha;cases tags with
  |true=>
   simp only [if_true];have h3:=Nt (w:=w) l h2;obtain⟨q,eq,hq⟩:=D3 w l (Ah w b);have e2:(Bn w (Ah w b) l).length=(Ah w b).length+l.length*w:=by
    rw [eq,Atj,hq,Nat.mul_comm]
   rw [e2] at h3;simpa only [Ato] using h3
  |false=>
   simp only [Bool.false_eq_true,if_false,List.append_nil];exact h2
theorem Acm{b:List UInt8}{log:List P3}(h:E8 b log)(k:Bv){l:List Bv}(hk:Dx b.length k)(hf:∀x∈l,Dx b.length x):E8 (Ds k l b).1 (log++N2 l (Ds k l b).2):=by
 obtain⟨w,hw⟩:∃w,B3 b.length 3 (some k) l=w:=⟨_,rfl⟩;have hW:Av (w:Int)=true:=by rw [←hw];exact Jv (fun x e=>by injection e with e;exact e▸hk) hf
 have h0:0<w:=by rcases Cc.1 hW with h|h|h|h <;>omega
 have ha:E8 (Ah w b) log:=h.pad _;unfold N2;simp only [Ds,hw];have h1:=((ha.part _ (M1 h0 (u:=(Ah w b).length-k.n)) 5).part _ (M1 h0 (u:=k.w)) 7).part _ (M1 h0 (u:=l.length)) 6;have h2:=Nt (w:=w) l (Mc h0 l h1);obtain⟨q,eq,hq⟩:=D3 w l (Ah w b++Ai w ((Ah w b).length-k.n)++Ai w k.w++Ai w l.length);have e2:(Bn w (Ah w b++Ai w ((Ah w b).length-k.n)++Ai w k.w++Ai w l.length) l).length=(Ah w b).length+w+w+w+l.length*w:=by
  rw [eq,Atj,hq,Nat.mul_comm];simp only [Atj,Aj]
 rw [e2] at h2;simp only [Atj,Aj] at h2⊢;have e3:(Ah w b).length+w+w+w-3*w=(Ah w b).length:=by omega
 have e4:(Ah w b).length+w+w+w-2*w=(Ah w b).length+w:=by omega
 have e5:(Ah w b).length+w+w+w-w=(Ah w b).length+w+w:=by omega
 rw [e3,e4,e5];simpa only [Ato,List.cons_append,List.nil_append] using h2
def nslot(l:List P3):Nat:=l.countP fun x=>decide (x.2.2≤5)
theorem Ej(a b:List P3):nslot (a++b)=nslot a+nslot b:=by unfold nslot;rw [List.countP_append]
theorem Aad(t:Int):E6 t≤5:=by unfold E6;(repeat' split) <;>omega
theorem N4(w:Nat):∀(vs:List Bv) (a:Nat),nslot (Hz w a vs)=vs.length
 | [],_=>rfl
 |v::r,a=>by
  have:=N4 w r (a+w);unfold nslot at this⊢;rw [Hz,List.countP_cons_of_pos (by simpa using Aad v.t),this,List.length_cons]
theorem Pm:∀(n a:Nat),nslot (G8 a n)=0
 |0,_=>rfl
 |n+1,a=>by
  have:=Pm n (a+1);unfold nslot at this⊢;rw [G8,List.countP_cons_of_neg (by simp),this]
theorem X8(len tags:Bool)(vs:List Bv)(v:Bv):nslot (Hv len tags vs v)=vs.length:=by
 unfold Hv;rw [Ej,Ej,N4];have h1:nslot (if len=true then [(((v.n-v.w:Nat):Int),(v.n:Int),(6:Int))] else [])=0:=by
  cases len <;>rfl
 have h2:nslot (if tags=true then G8 (v.n+vs.length*v.w) vs.length else [])=0:=by
  cases tags
  ·rfl
  ·exact Pm _ _
 rw [h1,h2];omega
theorem Ake(vs:List Bv)(v:Bv):nslot (N2 vs v)=vs.length+1:=by
 unfold N2;rw [Ej,Ej,N4,Pm];simp [nslot,Nat.add_comm]
end Go.Proofs.YtgbjodnegkbfoaaGreat
namespace Go.Acc
open Go.RowKit
def Hi(x:Int×Int×Int):Value:= .agg #[Aa Ab x.1,Aa Ab x.2.1,Aa Ab x.2.2]
def Ky(w:World)(b:Nat)(l:List (Int×Int×Int)):Prop:=
 ∃es k,w.heap[b]?=some (.map es k)∧es.toList.map (·.key)=l.map Hi∧∀x∈es.toList,x.val= .bool true
theorem Ky.lt{w:World}{b:Nat}{l:List (Int×Int×Int)}(h:Ky w b l):b<w.heap.size:=by
 obtain⟨es,k,hb,_⟩:=h;exact(Array.getElem?_eq_some_iff.1 hb).1
theorem Ky.fr{w w':World}{b:Nat}{l:List (Int×Int×Int)}{S:Nat→Prop}(h:Ky w b l)(hf:Fr S w w')(hs:¬S b):Ky w' b l:=by
 obtain⟨es,k,hb,r⟩:=h;exact⟨es,k,by rw [hf.block b (Array.getElem?_eq_some_iff.1 hb).1 hs];exact hb,r⟩
theorem Ky.pure{w w':World}{b:Nat}{l:List (Int×Int×Int)}(h:Ky w b l)(hf:Below w.heap.size w w'):Ky w' b l:=
 h.fr (Fr.of_below hf fun _=>False) (fun h=>h)
section
variable {P:Program} {mt kt et:TypeId} {fs:Array Field}
theorem Ae0(heq:∀(x y:Int×Int×Int) (W:World),(Op.equal kt (Hi x) (Hi y)).run P W= .ok (decide (x=y)) W)(x:Int×Int×Int)(W:World):
  ∀(l:List (Int×Int×Int)) (es:List MapEntry) (i:Nat),es.map (·.key)=l.map Hi→(∀y∈es,y.val= .bool true)→
   ∃r:Option (Nat×Value),(Instr.findAsking kt (Hi x) es i).run P W= .ok r W∧r.isSome=decide (x∈l)∧∀p,r=some p→p.2= .bool true
 | [],[],i,_,_=>⟨none,by simp [Instr.findAsking],by simp,by simp⟩
 | [],_::_,_,h,_=>by simp at h
 |_::_,[],_,h,_=>by simp at h
 |y::l,e::es,i,h,hv=>by
  simp only [List.map_cons,List.cons.injEq] at h;by_cases hxy:x=y
  ·refine⟨some (i,e.val),?_,by simp [hxy],fun p hp=>?_⟩
   ·simp only [Instr.findAsking,Sem.run_bind,h.1,heq,Result.andThen_ok,decide_eq_true hxy,if_true,Sem.run_pure]
   ·injection hp with hp;subst hp;exact hv e (by simp)
  ·obtain⟨r,h1,h2,h3⟩:=Ae0 heq x W l es (i+1) h.2 (fun z hz=>hv z (by simp [hz]));refine⟨r,?_,?_,h3⟩
   ·simp only [Instr.findAsking,Sem.run_bind,h.1,heq,Result.andThen_ok,decide_eq_false hxy];rw [if_neg (by decide)];exact h1
   ·rw [h2];simp [hxy]
theorem Yj(hk:P.underlying kt=some (.struct fs))(heq:∀(x y:Int×Int×Int) (W:World),(Op.equal kt (Hi x) (Hi y)).run P W= .ok (decide (x=y)) W)(x:Int×Int×Int)(W:World)
  (l:List (Int×Int×Int)) (es:List MapEntry) (h:es.map (·.key)=l.map Hi) (hv:∀y∈es,y.val= .bool true):
   ∃r:Option (Nat×Value),(Instr.findKey kt (Hi x) es).run P W= .ok r W∧r.isSome=decide (x∈l)∧∀p,r=some p→p.2= .bool true:=by
 obtain⟨r,h1,h2,h3⟩:=Ae0 heq x W l es 0 h hv;refine⟨r,?_,h2,h3⟩;cases es with
 |nil=>
  simp only [Instr.findAsking,Sem.run_pure] at h1;rw [←h1];simp [Instr.findKey,run_underlying hk,Instr.findNow,Result.andThen]
 |cons e es=>simp [Instr.findKey,run_underlying hk,Instr.findNow,Instr.sameNow,Result.andThen,h1]
theorem Yk(hu:P.underlying mt=some (.map kt et))(hk:P.underlying kt=some (.struct fs))(heq:∀(x y:Int×Int×Int) (W:World),(Op.equal kt (Hi x) (Hi y)).run P W= .ok (decide (x=y)) W)
  (hck:∀(x:Int×Int×Int) (e:Bool) (W:World),(Instr.checkKey e 10000 kt (Hi x)).run P W= .ok () W) (hz:∀W,(zeroValue et).run P W= .ok (.bool false) W)
  (b:Nat) (l:List (Int×Int×Int)) (x:Int×Int×Int) (W:World) (h:Ky W b l):(Instr.lookup mt (.map (some b)) (Hi x) false).run P W= .ok (.bool (decide (x∈l))) W:=by
 obtain⟨es,k,hb,h1,h2⟩:=h;obtain⟨r,h3,h4,h5⟩:=Yj hk heq x W l es.toList h1 h2;rw [←h4];cases r with
 |none=>
  simp only [Instr.lookup,Sem.run_bind,run_underlying hu,Result.andThen_ok,MapKept.run_getObj_map hb,hck,h3,hz,Sem.run_pure];rfl
 |some p=>
  obtain⟨i,u⟩:=p;obtain rfl:u= .bool true:=h5 _ rfl;simp only [Instr.lookup,Sem.run_bind,run_underlying hu,Result.andThen_ok,MapKept.run_getObj_map hb,hck,h3,Sem.run_pure];rfl
theorem Anp(hu:P.underlying mt=some (.map kt et))(hk:P.underlying kt=some (.struct fs))(heq:∀(x y:Int×Int×Int) (W:World),(Op.equal kt (Hi x) (Hi y)).run P W= .ok (decide (x=y)) W)
  (hck:∀(x:Int×Int×Int) (e:Bool) (W:World),(Instr.checkKey e 10000 kt (Hi x)).run P W= .ok () W)
  (b:Nat) (l:List (Int×Int×Int)) (x:Int×Int×Int) (W:World) (h:Ky W b l) (hx:x∉l):
  ∃W',(Instr.mapUpdate mt (.map (some b)) (Hi x) (.bool true)).run P W= .ok () W'∧Ky W' b (l++ [x])∧Fr (fun k=>k=b) W W'∧W'.heap.size=W.heap.size:=by
 obtain⟨es,k,hb,h1,h2⟩:=h;obtain⟨r,h3,h4,_⟩:=Yj hk heq x W l es.toList h1 h2;rw [decide_eq_false hx] at h4;obtain rfl:r=none:=by cases r;rfl;cases h4
 have hs:=MapKept.heap_set (w:=W) (o':= .map (es.push { key:=Hi x,val:= .bool true,born:=k}) (k+1)) hb;refine⟨{ W with heap:=W.heap.setIfInBounds b (.map (es.push { key:=Hi x,val:= .bool true,born:=k}) (k+1))},?_,⟨_,_,hs.1,?_,?_⟩,⟨rfl,rfl,rfl,by simp,fun i hi hne=>hs.2 i hne⟩,by simp⟩
 ·simp only [Instr.mapUpdate,Sem.run_bind,run_underlying hu,Result.andThen_ok,MapKept.run_getObj_map hb,hck,h3,MapKept.run_setObj_map _ hb]
 ·simp [h1]
 ·intro y hy;simp only [Array.toList_push,List.mem_append,List.mem_singleton] at hy;rcases hy with hy|rfl
  ·exact h2 y hy
  ·rfl
end
end Go.Acc
namespace Go.Proofs.YtgbjodnegkbfoaaGreat
open Go.RowKit Go.Acc
theorem Wq:∀(x y:Int×Int×Int) (W:World),(Op.equal 148 (Hi x) (Hi y)).run Tryz.prog W= .ok (decide (x=y)) W:=by
 rintro⟨a,b,c⟩ ⟨a',b',c'⟩ W;by_cases h1:a=a' <;>by_cases h2:b=b' <;>by_cases h3:c=c' <;>(simp only [Hi];(change (Op.equalIn 10000 _ _ _).run Tryz.prog W=_);go_simp)
theorem Wp:∀(x:Int×Int×Int) (e:Bool) (W:World),(Instr.checkKey e 10000 148 (Hi x)).run Tryz.prog W= .ok () W:=by
 rintro⟨a,b,c⟩ e W
 kernel_rfl
theorem Yn:∀W:World,(zeroValue 4).run Tryz.prog W= .ok (.bool false) W:=by
 intro W;go_simp
end Go.Proofs.YtgbjodnegkbfoaaGreat
