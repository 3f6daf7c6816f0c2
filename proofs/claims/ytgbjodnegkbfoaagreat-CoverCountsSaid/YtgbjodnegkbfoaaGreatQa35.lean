/- Parts of the proof. -/
import Derived.Test.YtgbjodnegkbfoaaGreatQa34
import Derived.Shelf.SlSortCmp.WholeK
import Derived.Shelf.SlicesG.Cmp
import Derived.Ground.SlsfProg
import Derived.Ground.SlgcProg
import Derived.Ground.NamesProg
set_option maxHeartbeats 4000000
set_option maxRecDepth 100000
open Go.Value renaming int→Aa
open Go.IntKind renaming i64→Ab
open Nat renaming le_refl→Ath
open Int renaming toNat_natCast→Ats
namespace Go.Proofs.YtgbjodnegkbfoaaGreat
open Go.RowKit Go.Acc
def Aog(E:Ie)(go:Rq→Ao→Ao×Int)(r:Rq)(N:Nat)(F:Ao×Int)(b:Nat)(w0:World)(g:Option Nat)(s0:Ao)(u8 u10:Value)(wr:World):Prop:=
 ∃(i:Nat) (s:Ao) (e:Int) (g':Option Nat),u8= Aa Ab e∧u10= Aa Ab i∧i≤N∧E9 E g' s wr∧Dw E g g' w0 wr∧Ig E g' wr b 75 #[Aa Ab r.p,Aa Ab r.q,Aa Ab r.t,Aa Ab r.v]∧
  (e=0→s.left≤s0.left∧s.size≤s0.size+1∧Cj E.l go r (N-i) i s=F)∧(e≠0→F=(s,e))
theorem Afv{l:List UInt8}{p q t v:Int}{i:Nat}(h:Bw l p q t v=0)(hi:i<lsLen l p q t v)(ha:Ez l p q t v i=0):Nw l.length (Ed l ⟨p,q,t,v⟩ i):=by
 obtain⟨h1,h2,_,h4⟩:=Og h;have h5:i*v.toNat+v.toNat≤lsLen l p q t v*v.toNat:=by
  rw [←Nat.succ_mul];exact Nat.mul_le_mul_right _ hi
 have h6:lsLen l p q t v*v.toNat≤lsLen l p q t v*(v.toNat+tgs t):=Nat.mul_le_mul_left _ (Nat.le_add_right _ _);unfold Nw Ed I8 I9;simp only [if_pos ha];generalize lsLen l p q t v*(v.toNat+tgs t)=X at*;generalize lsLen l p q t v*v.toNat=Y at*;rw [Ats];generalize i*v.toNat=Z at*;omega
theorem Aso{l:List UInt8}{p q t v:Int}(h:Bw l p q t v=0):lsTo l p q t v=lsAt l p q t v+lsLen l p q t v*(v.toNat+tgs t):=by
 unfold lsTo lsAt lsLen;rw [if_pos h,if_pos h,if_pos h];rfl
theorem Aah{l:List UInt8}{go:Rq→Ao→Ao×Int}{r x:Rq}{N i:Nat}{s st:Ao}{y F:Ao×Int}(h:Ez l r.p r.q r.t r.v i=0)(hst:Dl l r i s=st)(hat:Ed l r i=x)(hy:go x st=y)(hi:i<N)(hF:Cj l go r (N-i) i s=F):
  (y.2=0→Cj l go r (N-(i+1)) (i+1) y.1=F)∧(y.2≠0→F=(y.1,y.2)):=by
 obtain⟨k,hk⟩:∃k,N-i=k+1:=⟨N-i-1,by omega⟩;have hk2:N-(i+1)=k:=by omega
 rw [hk,Cj,if_neg (by rw [h];decide),hst,hat,hy] at hF;rw [hk2];refine⟨fun h0=>?_,fun h0=>?_⟩
 ·rw [if_neg (by rw [h0];decide)] at hF;exact hF
 ·rw [if_pos h0] at hF;exact hF.symm
theorem Aag{l:List UInt8}{go:Rq→Ao→Ao×Int}{r:Rq}{N i:Nat}{s st:Ao}{F:Ao×Int}{ee:Int}(h:Ez l r.p r.q r.t r.v i=ee)(he:ee≠0)(hst:Dl l r i s=st)(hi:i<N)(hF:Cj l go r (N-i) i s=F):F=(st,ee):=by
 obtain⟨k,hk⟩:∃k,N-i=k+1:=⟨N-i-1,by omega⟩;rw [hk,Cj,if_pos (by rw [h];exact he),hst,h] at hF;exact hF.symm
theorem Ada(E:Ie)(go:Rq→Ao→Ao×Int)(d:Nat)(hgo:Vw E go d)(hgoes:Qf go)(g:Option Nat)(s:Ao)(p q t v:Int)(w:World)(h:E9 E g s w)(hd:s.left.toNat<d)(hs:s.size≤899999993):
  Calls Tryz.prog 107 #[.pointer (some ⟨E.bw,0,none⟩),.agg #[Aa Ab p,Aa Ab q,Aa Ab t,Aa Ab v]] w (T3 E g w (Dy E.l go ⟨p,q,t,v⟩ s)):=by
 have HC:=Hd (h.alloc (.cells #[Aa Ab p,Aa Ab q,Aa Ab t,Aa Ab v] 75));have HX:=Hd (h.lone 75 #[Aa Ab p,Aa Ab q,Aa Ab t,Aa Ab v]);have HB:=Hd ((Dw.refl E g w).alloc (.cells #[Aa Ab p,Aa Ab q,Aa Ab t,Aa Ab v] 75));have HGO:=Hd hgo;have HGS:=Hd hgoes;obtain⟨f,hf⟩:∃f:Int,(lsFrom E.l p q t v:Int)=f:=⟨_,rfl⟩;obtain⟨a,ha⟩:∃a:Int,(lsAt E.l p q t v:Int)=a:=⟨_,rfl⟩;obtain⟨o,ho⟩:∃a:Int,(lsTo E.l p q t v:Int)=a:=⟨_,rfl⟩;obtain⟨N,hN⟩:∃N:Nat,lsLen E.l p q t v=N:=⟨_,rfl⟩;obtain⟨er,he⟩:∃a,Bw E.l p q t v=a:=⟨_,rfl⟩;have HF:=Hd hf;have HAA:=Hd ha;have HO:=Hd ho;have HN:=Hd hN;have HNI:=Hd (show(lsLen E.l p q t v:Int)=(N:Int) by rw [hN]);have HEE:=Hd he;have hcc:=h.ok.hc;have hnn:=h.ok.hn;have hlen:=h.len;clear h hf ha ho hN he hgo hgoes;obtain⟨c0,c1,c2,c3⟩:=HC.o.cells;have x0:=Az HX.o.1;have x1:=Ax HX.o.1;have x2:=Aw HX.o.1;have x3:=A6 HX.o.1;go_enter Tryz.func107,Tryz.ntmps107;go_wp2_with fail;go_region_held3 (fun w'=>w'.cell? ⟨E.bw,0,none⟩=some (.slice E.A E.n E.c)∧w'.cell? ⟨E.bw,3,none⟩=some (.func (.func 60) #[] #[.pointer (some ⟨E.bl,0,none⟩)])∧(w'.cell? ⟨w.heap.size,0,none⟩=some (Aa Ab p)∧w'.cell? ⟨w.heap.size,1,none⟩=some (Aa Ab q)∧w'.cell? ⟨w.heap.size,2,none⟩=some (Aa Ab t)∧w'.cell? ⟨w.heap.size,3,none⟩=some (Aa Ab v))) (first|with_reducible exact⟨c0,c3,x0,x1,x2,x3⟩|with_reducible exact⟨Ay c0,Ay c3,Ay x0,Ay x1,Ay x2,Ay x3⟩) (first|(go_at_call 173;(with_reducible refine(Amz E.A E.n E.c p q t v f a o er E.l _ HC.o.drew.b hcc (by omega) HF.o HAA.o HO.o HEE.o).mono ?_);rintro e w1 ⟨rfl,hb1⟩;replace HB:=Hd (HB.o.drew.below hb1);replace HC:=Hd (HC.o.drew.pure hb1);replace HX:=Hd (HX.o.drew.pure hb1);clear c0 c1 c2 c3 x0 x1 x2 x3;clear hb1;obtain⟨c0,c1,c2,c3⟩:=HC.o.cells;have x0:=Az HX.o.1;have x1:=Ax HX.o.1;have x2:=Aw HX.o.1;have x3:=A6 HX.o.1));by_cases he:er=0
 ·subst he;obtain⟨hv1,hv8,hroom,hle⟩:=Og HEE.o;have hto:=Aso HEE.o;obtain⟨V,rfl⟩:∃V:Nat,v=V:=⟨v.toNat,by omega⟩;rw [Ats,HN.o] at hle hto;rw [Ats] at hroom;have hNV:N*V≤N*(V+tgs t):=Nat.mul_le_mul_left _ (Nat.le_add_right _ _);have HLE:=Hd hle;have HTO:=Hd hto;have HNV:=Hd hNV;have HRM:=Hd hroom;clear hle hto hNV hroom;go_wp2_with fail;go_region_held3 (fun w'=>w'.cell? ⟨E.bw,0,none⟩=some (.slice E.A E.n E.c)∧w'.cell? ⟨E.bw,3,none⟩=some (.func (.func 60) #[] #[.pointer (some ⟨E.bl,0,none⟩)])∧(w'.cell? ⟨w.heap.size,0,none⟩=some (Aa Ab p)∧w'.cell? ⟨w.heap.size,1,none⟩=some (Aa Ab q)∧w'.cell? ⟨w.heap.size,2,none⟩=some (Aa Ab t)∧w'.cell? ⟨w.heap.size,3,none⟩=some (Aa Ab V))) (first|with_reducible exact⟨c0,c3,x0,x1,x2,x3⟩|with_reducible exact⟨Ay c0,Ay c3,Ay x0,Ay x1,Ay x2,Ay x3⟩) (first|(go_at_call 175;(with_reducible refine(Aps E.A E.n E.c p q t V N 0 E.l _ HC.o.drew.b hcc (by omega) HNI.o HEE.o).mono ?_);rintro e w1 ⟨rfl,hb1⟩;replace HB:=Hd (HB.o.drew.below hb1);replace HC:=Hd (HC.o.drew.pure hb1);replace HX:=Hd (HX.o.drew.pure hb1);clear c0 c1 c2 c3 x0 x1 x2 x3;clear hb1;obtain⟨c0,c1,c2,c3⟩:=HC.o.cells;have x0:=Az HX.o.1;have x1:=Ax HX.o.1;have x2:=Aw HX.o.1;have x3:=A6 HX.o.1));obtain⟨y,hy⟩:∃y,Cs E.l go ⟨p,q,t,V⟩ s=y:=⟨_,rfl⟩;have HY:=Hd hy;clear hy;go_upto_if 42 with fail
  go_cut [8] (fun u8 wx=>∃wy,wy=wx∧u8= Aa Ab y.2∧∃g',E9 E g' y.1 wx∧Dw E g g' w wx∧Ig E g' wx w.heap.size 75 #[Aa Ab p,Aa Ab q,Aa Ab t,Aa Ab V])
  case first=>
   by_cases h9:t=9
   ·subst h9;have hy:=HY.o;unfold Cs at hy;rw [if_pos rfl] at hy;have hk:=Ac9 E go d HGO.o HGS.o g s p q 9 V f _ HC.o hd (by omega) HF.o;rw [hy] at hk;have HK:=Hd hk;clear hy hk;go_wp2_with fail;go_at_call 189;refine HK.o.mono ?_;rintro e w2 ⟨rfl,g2,hC,hT⟩;have HC2:=Hd hC;have HT2:=Hd hT;clear hC hT HK;go_wp2_with fail;go_meet;exact⟨_,rfl,rfl,g2,HC2.o,HB.o.trans HT2.o,HX.o.to HT2.o⟩
   ·have hy:=HY.o;unfold Cs at hy;rw [if_neg h9] at hy;subst hy;have e9:(t==9)=false:=beq_eq_false_iff_ne.mpr h9;clear h9;go_wp2_with fail;go_meet;exact⟨_,rfl,rfl,g,HC.o,HB.o,HX.o⟩
  case rest=>
  obtain⟨w2,rfl,rfl,g2,hC2,hT2,hX2⟩:=hcut;have HC:=Hd hC2;have HB:=Hd hT2;have HX:=Hd hX2;clear hC2 hT2 hX2;clear c0 c1 c2 c3 x0 x1 x2 x3;obtain⟨c0,c1,c2,c3⟩:=HC.o.cells;have x0:=Az HX.o.1;have x1:=Ax HX.o.1;have x2:=Aw HX.o.1;have x3:=A6 HX.o.1;go_upto_region 7 with fail
  go_cut [53] (fun u53 wx=>∃wy,wy=wx∧u53= .bool (decide (y.2=0∧f<a))∧wx=w2)
  case first=>
   clear c0 c1 c2 c3 x0 x1 x2 x3;clear HC HB HX;by_cases hy0:y.2=0
   ·have hyb:(y.2==0)=true:=by simpa using hy0
    have HY0:=Hd hy0;clear hy0;by_cases hfa:f<a
    ·have HD:=Hd (show decide (y.2=0∧f<a)=true from decide_eq_true ⟨HY0.o,hfa⟩);go_wp2_with fail;go_meet;rw [HD.o];exact⟨_,rfl,rfl,rfl⟩
    ·have HD:=Hd (show decide (y.2=0∧f<a)=false from decide_eq_false fun h=>hfa h.2);have hfd:decide (f<a)=false:=decide_eq_false hfa;clear hfa;go_wp2_with fail;go_meet;rw [HD.o];exact⟨_,rfl,rfl,rfl⟩
   ·have hyb:(y.2==0)=false:=beq_eq_false_iff_ne.mpr hy0;have HD:=Hd (show decide (y.2=0∧f<a)=false from decide_eq_false fun h=>hy0 h.1);clear hy0;go_wp2_with fail;go_meet;rw [HD.o];exact⟨_,rfl,rfl,rfl⟩
  case rest=>
  obtain⟨w2,rfl,rfl,rfl⟩:=hcut;obtain⟨z,hz⟩:∃z,(if y.2=0 then Gp E.l ⟨p,q,t,V⟩ y.1 else y.1)=z:=⟨_,rfl⟩;have HZ:=Hd hz;have hgrow:=Q2 (l:=E.l) ⟨p,q,t,V⟩ HGS.o s;rw [HY.o] at hgrow;have hgr2:=Abf (l:=E.l) ⟨p,q,t,V⟩ y.1;have hgz:z.left≤s.left∧z.size≤s.size+1:=by
   subst hz;split
   ·exact⟨Int.le_trans hgr2.1 hgrow.1,by have:=hgr2.2;have:=hgrow.2;omega⟩
   ·exact⟨hgrow.1,by have:=hgrow.2;omega⟩
  have hyo:y.1.o.length≤899999993:=by have:=G1 y.1;have:=hgrow.2;omega
  have hzl:=hgz.1;have hzs:=hgz.2;clear hz hgrow hgr2 hgz;go_upto_if 53 with fail
  go_cut [] (fun wx=>∃wy,wy=wx∧∃g',E9 E g' z wx∧Dw E g g' w wx∧Ig E g' wx w.heap.size 75 #[Aa Ab p,Aa Ab q,Aa Ab t,Aa Ab V])
  case first=>
   by_cases hc:y.2=0∧f<a
   ·have hd:decide (y.2=0∧f<a)=true:=decide_eq_true hc;rw [hd];have hz:=HZ.o;rw [if_pos hc.1] at hz;unfold Gp at hz;rw [if_pos (by have h1:=HF.o;have h2:=HAA.o;have:=hc.2;simp only;omega)] at hz;have hz2:y.1.tell (a-V) a 6=z:=by rw [←hz];simp only [HAA.o]
    replace HZ:=Hd hz2;have ha0:0≤a:=by have:=HAA.o;omega
    have ha1:a≤4294967296:=by have h1:=HAA.o;have h2:=HLE.o;omega
    have hw1:IntKind.i64.wrap (a-V)=a-V:=IntWalk.i64_in _ (by omega);clear hz hz2 hd hc;go_wp2_with fail;go_region_held3 (fun w'=>w'.cell? ⟨E.bw,0,none⟩=some (.slice E.A E.n E.c)∧w'.cell? ⟨E.bw,3,none⟩=some (.func (.func 60) #[] #[.pointer (some ⟨E.bl,0,none⟩)])∧(w'.cell? ⟨w.heap.size,0,none⟩=some (Aa Ab p)∧w'.cell? ⟨w.heap.size,1,none⟩=some (Aa Ab q)∧w'.cell? ⟨w.heap.size,2,none⟩=some (Aa Ab t)∧w'.cell? ⟨w.heap.size,3,none⟩=some (Aa Ab V))) (first|with_reducible exact⟨c0,c3,x0,x1,x2,x3⟩|with_reducible exact⟨Ay c0,Ay c3,Ay x0,Ay x1,Ay x2,Ay x3⟩) (first|(go_at_call 60;(with_reducible refine(Gl (a-V) a 6 HC.o.drew (by omega)).mono ?_);rintro e w3 ⟨rfl,g3,hC3,hT3⟩;replace HB:=Hd (HB.o.drew.trans hT3);replace HX:=Hd (HX.o.drew.to hT3);replace HC:=Hd hC3;clear c0 c1 c2 c3 x0 x1 x2 x3;clear hC3 hT3;obtain⟨c0,c1,c2,c3⟩:=HC.o.cells;have x0:=Az HX.o.1;have x1:=Ax HX.o.1;have x2:=Aw HX.o.1;have x3:=A6 HX.o.1));go_wp2_with fail;go_meet;rw [←HZ.o];exact⟨_,rfl,_,HC.o,HB.o,HX.o⟩
   ·have hd:decide (y.2=0∧f<a)=false:=decide_eq_false hc;rw [hd];have hz:=HZ.o;have e:z=y.1:=by
     subst hz;split
     ·rename_i h0;unfold Gp;rw [if_neg];intro h;exact hc ⟨h0,by have h1:=HF.o;have h2:=HAA.o;simp only at h;omega⟩
     ·rfl
    subst e;clear hz hd hc;go_wp2_with fail;go_meet;exact⟨_,rfl,_,HC.o,HB.o,HX.o⟩
  case rest=>
  obtain⟨w3,rfl,g3,hC3,hT3,hX3⟩:=hcut;obtain⟨F,hF⟩:∃F,(if y.2=0 then Cj E.l go ⟨p,q,t,V⟩ N 0 z else y)=F:=⟨_,rfl⟩;have HFF:=Hd hF;have hrel:Aog E go ⟨p,q,t,V⟩ N F w.heap.size w g s (Aa Ab y.2) (Aa Ab 0) w3:=
   ⟨0,z,y.2,g3,rfl,rfl,Nat.zero_le _,hC3,hT3,hX3,fun h=>⟨hzl,hzs,by rw [if_pos h] at hF;exact hF⟩,fun h=>by
    have hz:=HZ.o;rw [if_neg h] at hF hz;rw [←hF,←hz]⟩
  have HREL:=Hd hrel;have hlf:Dy E.l go ⟨p,q,t,V⟩ s=F:=by
   have hz:=HZ.o;unfold Dy;rw [if_neg (by rw [HEE.o];decide),HY.o];by_cases h:y.2=0
   ·rw [if_pos h] at hF hz;rw [if_neg (by rw [h];decide),hz,←hF];simp only [HN.o]
   ·rw [if_neg h] at hF;rw [if_pos h,hF]
  have HLF:=Hd hlf;have HTN:=Hd (show(N:Int)*(V:Int)≤4294967296∧(0:Int)≤(N:Int)*(V:Int)∧0≤a∧a≤4294967296∧N≤4294967296 from by
   have h1:=HLE.o;have h2:=HNV.o;have h3:=HAA.o;have h5:((N*V:Nat):Int)=(N:Int)*(V:Int):=Int.natCast_mul _ _;have h6:N≤N*V:=Nat.le_mul_of_pos_right _ (by omega);refine⟨by omega,by omega,by omega,by omega,by omega⟩)
  clear hF hrel hC3 hT3 hX3 hlf;clear c0 c1 c2 c3 x0 x1 x2 x3;clear HC HX HB;go_upto_region 9 with fail
  go_wp2_with fail;go_loopw [8,10] (fun u8 u10 wr=>Aog E go ⟨p,q,t,V⟩ N F w.heap.size w g s u8 u10 wr) (fun _ u10 _=>N-(intOf u10).toNat)
  case atStart=>exact HREL.o
  case round=>
   clear HREL;obtain⟨i,s1,e1,g1,rfl,rfl,hi,hC1,hT1,hX1,hz0,hne⟩:=hrel;have HC:=Hd hC1;have HB:=Hd hT1;have HX:=Hd hX1;have HNE:=Hd hne;have HZ0:=Hd hz0;clear hC1 hT1 hX1 hne hz0;obtain⟨hP1,hP0,ha0,ha1,hN1⟩:=HTN.o;by_cases he1:e1=0
   ·subst he1;obtain⟨hl1,hs1,hF1⟩:=HZ0.o rfl;by_cases hlt:i<N
    ·have HF1:=Hd hF1;clear hF1 HNE HZ0;obtain⟨st,hst⟩:∃st,Dl E.l ⟨p,q,t,V⟩ i s1=st:=⟨_,rfl⟩;have hstg:=Tw (l:=E.l) ⟨p,q,t,V⟩ i s1;rw [hst] at hstg;have hstl:st.left≤s.left:=Int.le_trans hstg.1 hl1;have hsts:st.size≤s.size+2:=by have:=hstg.2;omega
     have hs1o:s1.o.length≤899999999:=by have:=G1 s1;omega
     have HST:=Hd hst;clear hst hstg;obtain⟨c0,c1,c2,c3⟩:=HC.o.cells;have x0:=Az HX.o.1;have x1:=Ax HX.o.1;have x2:=Aw HX.o.1;have x3:=A6 HX.o.1;by_cases htg:Bo t=true
     ·have hdt:decide (a+(N:Int)*(V:Int)<o)=true:=by
       apply decide_eq_true;have h1:=HTO.o;have h2:=HO.o;have h3:=HAA.o;have h4:tgs t=1:=if_pos htg;rw [h4,Nat.mul_add,Nat.mul_one] at h1;have h5:((N*V:Nat):Int)=(N:Int)*(V:Int):=Int.natCast_mul _ _;omega
      have e:s1.tell (a+(N:Int)*(V:Int)+(i:Int)) (a+(N:Int)*(V:Int)+(i:Int)+1) 8=st:=by
       rw [←HST.o];unfold Dl;rw [if_pos htg];simp only [HAA.o,HN.o]
      have HE:=Hd e;clear e htg;go_wp2_with (go_at_call 60;(with_reducible refine(Gl (a+(N:Int)*(V:Int)+(i:Int)) (a+(N:Int)*(V:Int)+(i:Int)+1) 8 HC.o (by omega)).mono ?_);rintro e w4 ⟨rfl,g4,hC4,hT4⟩;rw [HE.o] at hC4;replace HB:=Hd (HB.o.trans hT4);replace HX:=Hd (HX.o.to hT4);replace HC:=Hd hC4;clear c0 c1 c2 c3 x0 x1 x2 x3;clear hC4 hT4;obtain⟨c0,c1,c2,c3⟩:=HC.o.cells;have x0:=Az HX.o.1;have x1:=Ax HX.o.1;have x2:=Aw HX.o.1;have x3:=A6 HX.o.1);go_upto_region 16 with fail
      obtain⟨a0,ha0'⟩:∃x,I8 E.l p q t V i=x:=⟨_,rfl⟩;obtain⟨b0,hb0'⟩:∃x,I9 E.l p q t V i=x:=⟨_,rfl⟩;obtain⟨d0,hd0'⟩:∃x,Jr E.l p q t V i=x:=⟨_,rfl⟩;obtain⟨g0,hg0'⟩:∃x,Js E.l p q t V i=x:=⟨_,rfl⟩;obtain⟨ee,hee'⟩:∃x,Ez E.l p q t V i=x:=⟨_,rfl⟩;have HA0:=Hd ha0';have HA1:=Hd hb0';have HA2:=Hd hd0';have HA3:=Hd hg0';have HA4:=Hd hee';clear ha0' hb0' hd0' hg0' hee';have hFree:=HC.o.new;have HFR:=Hd hFree;clear hFree;clear c0 c1 c2 c3 x0 x1 x2 x3;go_cut [8] from 64 to 108 (fun u8 wx=>∃wy,wy=wx∧u8= Aa Ab ee∧Af wx w4.heap.size 75 #[Aa Ab a0,Aa Ab b0,Aa Ab d0,Aa Ab g0]∧Below w4.heap.size w4 wx)
      case first=>
       have HK:=Hd (Af.new w4 75 #[Aa Ab 0,Aa Ab 0,Aa Ab 0,Aa Ab 0]);have HQ:=Hd ((Below.refl w4.heap.size w4).alloc (Ath _) (.cells #[Aa Ab 0,Aa Ab 0,Aa Ab 0,Aa Ab 0] 75));have HW:=Hd (HC.o.W.alloc (.cells #[Aa Ab 0,Aa Ab 0,Aa Ab 0,Aa Ab 0] 75));have HR:=Hd (HX.o.1.alloc (.cells #[Aa Ab 0,Aa Ab 0,Aa Ab 0,Aa Ab 0] 75));have HL:=Hd (HC.o.b.alloc (.cells #[Aa Ab 0,Aa Ab 0,Aa Ab 0,Aa Ab 0] 75));have hn1:E.bw≠w4.heap.size:=by have:=HC.o.W.lt;omega
       have hn2:w.heap.size≠w4.heap.size:=by have:=HX.o.1.lt;omega
       clear HC HB HX HF1 HST;generalize w4.alloc (.cells #[Aa Ab 0,Aa Ab 0,Aa Ab 0,Aa Ab 0] 75)=wa at HK HQ HW HR HL⊢;have c0:_=some (Value.slice E.A E.n E.c):=HW.o.cell 0;have x0:=Az HR.o;have x1:=Ax HR.o;have x2:=Aw HR.o;have x3:=A6 HR.o;have q0:=Az HK.o;have q1:=Ax HK.o;have q2:=Aw HK.o;have q3:=A6 HK.o;have p0:=HK.o.frozen 0;have p1:=HK.o.frozen 1;have p2:=HK.o.frozen 2;have p3:=HK.o.frozen 3;go_region_held3 (fun w'=>w'.cell? ⟨E.bw,0,none⟩=some (.slice E.A E.n E.c)∧(w'.cell? ⟨w.heap.size,0,none⟩=some (Aa Ab p)∧w'.cell? ⟨w.heap.size,1,none⟩=some (Aa Ab q)∧w'.cell? ⟨w.heap.size,2,none⟩=some (Aa Ab t)∧w'.cell? ⟨w.heap.size,3,none⟩=some (Aa Ab V))) ((with_reducible refine⟨?_,?_,?_,?_,?_⟩) <;>(repeat (first|with_reducible assumption|with_reducible refine B4 ?_|with_reducible refine Iu _ ?_|with_reducible refine Ag0 ?_ ?_)))
        (first|(go_at_call 176;(with_reducible refine(Ajt E.A E.n E.c p q t V i a0 b0 d0 g0 ee E.l _ (HL.o.pure (Below.refl _ _).drew) hcc (by omega) HA0.o HA1.o HA2.o HA3.o HA4.o).mono ?_);rintro e w5 ⟨rfl,hb⟩;replace HQ:=Hd (Ad HQ.o.drew hb);replace HW:=Hd (HW.o.drew.pure hb);replace HR:=Hd (HR.o.drew.pure hb);replace HK:=Hd (HK.o.drew.pure hb);clear hb c0 x0 x1 x2 x3 q0 q1 q2 q3 p0 p1 p2 p3;have c0:_=some (Value.slice E.A E.n E.c):=HW.o.cell 0;have x0:=Az HR.o;have x1:=Ax HR.o;have x2:=Aw HR.o;have x3:=A6 HR.o;have q0:=Az HK.o;have q1:=Ax HK.o;have q2:=Aw HK.o;have q3:=A6 HK.o;have p0:=HK.o.frozen 0;have p1:=HK.o.frozen 1;have p2:=HK.o.frozen 2;have p3:=HK.o.frozen 3))
       go_wp2_with fail;go_meet;exact⟨_,rfl,rfl,(((HK.o.set_ 0 _).set_ 1 _).set_ 2 _).set_ 3 _,Dj _ HQ.o (Ath _) _ _ _ _⟩
      case rest=>
      obtain⟨w6,rfl,rfl,hK6,hb6⟩:=hcut;have HK:=Hd (show Ig E g4 w6 w4.heap.size 75 #[Aa Ab a0,Aa Ab b0,Aa Ab d0,Aa Ab g0] from⟨hK6,HFR.o⟩);replace HC:=Hd (HC.o.pure hb6);replace HX:=Hd (HX.o.pure hb6);replace HB:=Hd (HB.o.below hb6);clear hK6 hb6;by_cases hee:ee=0
      ·subst hee;have hok:=Afv HEE.o (by rw [HN.o];exact hlt) HA4.o;have hat:Ed E.l ⟨p,q,t,V⟩ i=⟨a0,b0,d0,g0⟩:=by unfold Ed;simp only [HA0.o,HA1.o,HA2.o,HA3.o]
       rw [hat] at hok;obtain⟨y2,hy2⟩:∃y,go ⟨a0,b0,d0,g0⟩ st=y:=⟨_,rfl⟩;have hstep:=Aah (l:=E.l) (r:=⟨p,q,t,V⟩) HA4.o HST.o hat hy2 hlt HF1.o;have hcm:=HGO.o _ st a0 b0 d0 g0 w6 HC.o (by omega) (by omega) hok;have hgr:=HGS.o ⟨a0,b0,d0,g0⟩ st;rw [hy2] at hcm hgr;have HCM:=Hd hcm;have HGR:=Hd hgr;have HSTEP:=Hd hstep;have k0:=Az HK.o.1;have k1:=Ax HK.o.1;have k2:=Aw HK.o.1;have k3:=A6 HK.o.1;clear hok hat hy2 hstep hcm hgr HF1;go_wp2_with fail;go_at_call 61;refine HCM.o.mono ?_;rintro e w7 ⟨rfl,g7,hC7,hT7⟩;replace HB:=Hd (HB.o.trans hT7);replace HX:=Hd (HX.o.to hT7);replace HC:=Hd hC7;clear HK hC7 hT7 HCM k0 k1 k2 k3;go_wp2_with fail;go_roundw
       case rel=>exact⟨i+1,y2.1,y2.2,g7,rfl,by go_num,by omega,HC.o,HB.o,HX.o,fun h=>⟨Int.le_trans HGR.o.1.1 hstl,by have:=HGR.o.2 h;omega,HSTEP.o.1 h⟩,HSTEP.o.2⟩
       case measure=>simp [intOf];omega
      ·have hb1:(ee==0)=false:=beq_eq_false_iff_ne.mpr hee;have HEN:=Hd (Aag (l:=E.l) (r:=⟨p,q,t,V⟩) HA4.o hee HST.o hlt HF1.o);have HE0:=Hd hee;clear hee HF1;go_wp2_with fail;go_roundw
       case rel=>exact⟨i+1,st,ee,_,rfl,by go_num,by omega,HC.o,HB.o,HX.o,fun h=>absurd h HE0.o,fun _=>HEN.o⟩
       case measure=>simp [intOf];omega
     ·have hdt:decide (a+(N:Int)*(V:Int)<o)=false:=by
       apply decide_eq_false;have h1:=HTO.o;have h2:=HO.o;have h3:=HAA.o;have h4:tgs t=0:=if_neg htg;rw [h4,Nat.add_zero] at h1;have h5:((N*V:Nat):Int)=(N:Int)*(V:Int):=Int.natCast_mul _ _;omega
      have e:st=s1:=by
       rw [←HST.o];unfold Dl;rw [if_neg htg]
      subst e;clear htg;go_upto_region 16 with fail
      obtain⟨a0,ha0'⟩:∃x,I8 E.l p q t V i=x:=⟨_,rfl⟩;obtain⟨b0,hb0'⟩:∃x,I9 E.l p q t V i=x:=⟨_,rfl⟩;obtain⟨d0,hd0'⟩:∃x,Jr E.l p q t V i=x:=⟨_,rfl⟩;obtain⟨g0,hg0'⟩:∃x,Js E.l p q t V i=x:=⟨_,rfl⟩;obtain⟨ee,hee'⟩:∃x,Ez E.l p q t V i=x:=⟨_,rfl⟩;have HA0:=Hd ha0';have HA1:=Hd hb0';have HA2:=Hd hd0';have HA3:=Hd hg0';have HA4:=Hd hee';clear ha0' hb0' hd0' hg0' hee';have hFree:=HC.o.new;have HFR:=Hd hFree;clear hFree;clear c0 c1 c2 c3 x0 x1 x2 x3;go_cut [8] from 64 to 108 (fun u8 wx=>∃wy,wy=wx∧u8= Aa Ab ee∧Af wx wr.heap.size 75 #[Aa Ab a0,Aa Ab b0,Aa Ab d0,Aa Ab g0]∧Below wr.heap.size wr wx)
      case first=>
       have HK:=Hd (Af.new wr 75 #[Aa Ab 0,Aa Ab 0,Aa Ab 0,Aa Ab 0]);have HQ:=Hd ((Below.refl wr.heap.size wr).alloc (Ath _) (.cells #[Aa Ab 0,Aa Ab 0,Aa Ab 0,Aa Ab 0] 75));have HW:=Hd (HC.o.W.alloc (.cells #[Aa Ab 0,Aa Ab 0,Aa Ab 0,Aa Ab 0] 75));have HR:=Hd (HX.o.1.alloc (.cells #[Aa Ab 0,Aa Ab 0,Aa Ab 0,Aa Ab 0] 75));have HL:=Hd (HC.o.b.alloc (.cells #[Aa Ab 0,Aa Ab 0,Aa Ab 0,Aa Ab 0] 75));have hn1:E.bw≠wr.heap.size:=by have:=HC.o.W.lt;omega
       have hn2:w.heap.size≠wr.heap.size:=by have:=HX.o.1.lt;omega
       clear HC HB HX HF1 HST;generalize wr.alloc (.cells #[Aa Ab 0,Aa Ab 0,Aa Ab 0,Aa Ab 0] 75)=wa at HK HQ HW HR HL⊢;have c0:_=some (Value.slice E.A E.n E.c):=HW.o.cell 0;have x0:=Az HR.o;have x1:=Ax HR.o;have x2:=Aw HR.o;have x3:=A6 HR.o;have q0:=Az HK.o;have q1:=Ax HK.o;have q2:=Aw HK.o;have q3:=A6 HK.o;have p0:=HK.o.frozen 0;have p1:=HK.o.frozen 1;have p2:=HK.o.frozen 2;have p3:=HK.o.frozen 3;go_region_held3 (fun w'=>w'.cell? ⟨E.bw,0,none⟩=some (.slice E.A E.n E.c)∧(w'.cell? ⟨w.heap.size,0,none⟩=some (Aa Ab p)∧w'.cell? ⟨w.heap.size,1,none⟩=some (Aa Ab q)∧w'.cell? ⟨w.heap.size,2,none⟩=some (Aa Ab t)∧w'.cell? ⟨w.heap.size,3,none⟩=some (Aa Ab V))) ((with_reducible refine⟨?_,?_,?_,?_,?_⟩) <;>(repeat (first|with_reducible assumption|with_reducible refine B4 ?_|with_reducible refine Iu _ ?_|with_reducible refine Ag0 ?_ ?_)))
        (first|(go_at_call 176;(with_reducible refine(Ajt E.A E.n E.c p q t V i a0 b0 d0 g0 ee E.l _ (HL.o.pure (Below.refl _ _).drew) hcc (by omega) HA0.o HA1.o HA2.o HA3.o HA4.o).mono ?_);rintro e w5 ⟨rfl,hb⟩;replace HQ:=Hd (Ad HQ.o.drew hb);replace HW:=Hd (HW.o.drew.pure hb);replace HR:=Hd (HR.o.drew.pure hb);replace HK:=Hd (HK.o.drew.pure hb);clear hb c0 x0 x1 x2 x3 q0 q1 q2 q3 p0 p1 p2 p3;have c0:_=some (Value.slice E.A E.n E.c):=HW.o.cell 0;have x0:=Az HR.o;have x1:=Ax HR.o;have x2:=Aw HR.o;have x3:=A6 HR.o;have q0:=Az HK.o;have q1:=Ax HK.o;have q2:=Aw HK.o;have q3:=A6 HK.o;have p0:=HK.o.frozen 0;have p1:=HK.o.frozen 1;have p2:=HK.o.frozen 2;have p3:=HK.o.frozen 3))
       go_wp2_with fail;go_meet;exact⟨_,rfl,rfl,(((HK.o.set_ 0 _).set_ 1 _).set_ 2 _).set_ 3 _,Dj _ HQ.o (Ath _) _ _ _ _⟩
      case rest=>
      obtain⟨w6,rfl,rfl,hK6,hb6⟩:=hcut;have HK:=Hd (show Ig E g1 w6 wr.heap.size 75 #[Aa Ab a0,Aa Ab b0,Aa Ab d0,Aa Ab g0] from⟨hK6,HFR.o⟩);replace HC:=Hd (HC.o.pure hb6);replace HX:=Hd (HX.o.pure hb6);replace HB:=Hd (HB.o.below hb6);clear hK6 hb6;by_cases hee:ee=0
      ·subst hee;have hok:=Afv HEE.o (by rw [HN.o];exact hlt) HA4.o;have hat:Ed E.l ⟨p,q,t,V⟩ i=⟨a0,b0,d0,g0⟩:=by unfold Ed;simp only [HA0.o,HA1.o,HA2.o,HA3.o]
       rw [hat] at hok;obtain⟨y2,hy2⟩:∃y,go ⟨a0,b0,d0,g0⟩ st=y:=⟨_,rfl⟩;have hstep:=Aah (l:=E.l) (r:=⟨p,q,t,V⟩) HA4.o HST.o hat hy2 hlt HF1.o;have hcm:=HGO.o _ st a0 b0 d0 g0 w6 HC.o (by omega) (by omega) hok;have hgr:=HGS.o ⟨a0,b0,d0,g0⟩ st;rw [hy2] at hcm hgr;have HCM:=Hd hcm;have HGR:=Hd hgr;have HSTEP:=Hd hstep;have k0:=Az HK.o.1;have k1:=Ax HK.o.1;have k2:=Aw HK.o.1;have k3:=A6 HK.o.1;clear hok hat hy2 hstep hcm hgr HF1;go_wp2_with fail;go_at_call 61;refine HCM.o.mono ?_;rintro e w7 ⟨rfl,g7,hC7,hT7⟩;replace HB:=Hd (HB.o.trans hT7);replace HX:=Hd (HX.o.to hT7);replace HC:=Hd hC7;clear HK hC7 hT7 HCM k0 k1 k2 k3;go_wp2_with fail;go_roundw
       case rel=>exact⟨i+1,y2.1,y2.2,g7,rfl,by go_num,by omega,HC.o,HB.o,HX.o,fun h=>⟨Int.le_trans HGR.o.1.1 hstl,by have:=HGR.o.2 h;omega,HSTEP.o.1 h⟩,HSTEP.o.2⟩
       case measure=>simp [intOf];omega
      ·have hb1:(ee==0)=false:=beq_eq_false_iff_ne.mpr hee;have HEN:=Hd (Aag (l:=E.l) (r:=⟨p,q,t,V⟩) HA4.o hee HST.o hlt HF1.o);have HE0:=Hd hee;clear hee HF1;go_wp2_with fail;go_roundw
       case rel=>exact⟨i+1,st,ee,_,rfl,by go_num,by omega,HC.o,HB.o,HX.o,fun h=>absurd h HE0.o,fun _=>HEN.o⟩
       case measure=>simp [intOf];omega
    ·have hie:N-i=0:=by omega
     rw [hie] at hF1;have HF1:=Hd (show F=(s1,0) from hF1.symm);clear hF1 hie;go_wp2_with fail;go_ret;rw [HLF.o,HF1.o];exact⟨rfl,_,HC.o,HB.o⟩
   ·have hb1:(e1==0)=false:=beq_eq_false_iff_ne.mpr he1;have HF1:=Hd (HNE.o he1);clear he1 HNE HZ0;go_wp2_with fail
    all_goals
     go_ret;rw [HLF.o,HF1.o];exact⟨rfl,_,HC.o,HB.o⟩
 ·have hne:(er != 0)=true:=by simpa using he
  have e:Dy E.l go ⟨p,q,t,v⟩ s=(s,er):=by
   unfold Dy;rw [HEE.o,if_pos he]
  have HR:=Hd e;clear e he;go_wp2_with fail;go_ret;rw [HR.o];exact⟨rfl,_,HC.o,HB.o⟩
theorem Ao8{E:Ie}{g:Option Nat}{s:Ao}{w:World}(h:E9 E g s w){x:Int}(hx:s.left-1=x):E9 E g s.burn (w.setCell ⟨E.bw,1,none⟩ (Aa Ab x))∧Dw E g g w (w.setCell ⟨E.bw,1,none⟩ (Aa Ab x)):=by
 subst hx;have hf:Fr (fun k=>k=E.bw) w (w.setCell ⟨E.bw,1,none⟩ (Aa Ab (s.left-1))):=Fr.setCell (S:=fun k=>k=E.bw) (Fr.refl _ _) (fun _=>rfl) _;have ok:=h.ok;refine⟨⟨ok,h.b.fr hf ?_,h.W.set_ 1 _,h.M.fr hf ok.mw,h.O.fr hf ok.lw ?_,Nat.le_trans h.sz hf.size⟩,hf.mono ?_,fun _ _ h=>h⟩
 ·intro ad had e;have:=ok.hA ad had;have:=ok.w0;omega
 ·intro k hk e;have:=(h.O.row k hk).1;have:=ok.w2;omega
 ·rintro k _ rfl hF;exact hF.2.2.1 rfl
theorem Arz{E:Ie}{g:Option Nat}{s:Ao}{w w':World}(h:E9 E g s w)(x:P3)(hM:Ky w' E.bm (s.had++ [x]))(hf:Fr (fun k=>k=E.bm) w w'):E9 E g (s.see x) w'∧Dw E g g w w':=by
 have ok:=h.ok;refine⟨⟨ok,h.b.fr hf ?_,h.W.fr hf (Ne.symm ok.mw),hM,h.O.fr hf ok.lm ?_,Nat.le_trans h.sz hf.size⟩,hf.mono ?_,fun _ _ h=>h⟩
 ·intro ad had e;have:=ok.hA ad had;have:=ok.m0;omega
 ·intro k hk e;have:=(h.O.row k hk).1;have:=ok.m2;omega
 ·rintro k _ rfl hF;exact hF.2.1 rfl
theorem Ak8(A:Option Addr)(n c:Nat)(p q t v a er:Int)(l:List UInt8)(w:World)(hl:Cw w A n l)(hc:n≤c)(hn:n≤1099511627776)(h1:Bg l p q t v=a)(h2:Bh l p q t v=er):
  Calls Tryz.prog 91 #[.slice A n c,.agg #[Aa Ab p,Aa Ab q,Aa Ab t,Aa Ab v]] w fun e w'=>e= .returned (.tuple #[Aa Ab a,Aa Ab er])∧Below w.heap.size w w':=by
 subst h1 h2;exact G2 A n c p q t v l w hl hc (by omega)
theorem Xx(t:Int)(b:Bool)(w:World)(h:An t=b):Calls Tryz.prog 90 #[Aa Ab t] w fun e w'=>e= .returned (.bool b)∧Below w.heap.size w w':=by
 subst h;exact Ce t w
theorem Ui(E:Ie):∀d,Vw E (Bl E.l d) d
 |0=>fun g s p q t v w h hd hs hr=>absurd hd (Nat.not_lt_zero _)
 |d+1=>fun g s p q t v w h hd hs hr=>by
  have ih:=Ui E d;have HIH:=Hd ih;have HC:=Hd (h.alloc (.cells #[Aa Ab p,Aa Ab q,Aa Ab t,Aa Ab v] 75));have HX:=Hd (h.lone 75 #[Aa Ab p,Aa Ab q,Aa Ab t,Aa Ab v]);have HB:=Hd ((Dw.refl E g w).alloc (.cells #[Aa Ab p,Aa Ab q,Aa Ab t,Aa Ab v] 75));have hcc:=h.ok.hc;have hnn:=h.ok.hn;have hlen:=h.len;obtain⟨hp0,hq1,hq8,hpq⟩:=hr;simp only at hp0 hq1 hq8 hpq;clear ih h;have hleft:8*s.left.toNat≤900000000:=by unfold Ao.size at hs;omega
  obtain⟨c0,c1,c2,c3⟩:=HC.o.cells;have x0:=Az HX.o.1;have x1:=Ax HX.o.1;have x2:=Aw HX.o.1;have x3:=A6 HX.o.1;by_cases hl:s.left<1
  ·have hR:Bl E.l (d+1) ⟨p,q,t,v⟩ s=(s,260):=by unfold Bl;rw [if_pos hl]
   have HR:=Hd hR;clear hR;go_enter Tryz.func61,Tryz.ntmps61;go_wp2_with fail;go_ret;rw [HR.o];exact⟨rfl,_,HC.o,HB.o⟩
  ·have hwr:IntKind.i64.wrap (s.left-1)=s.left-1:=IntWalk.i64_in _ (by omega);have hwq:IntKind.i64.wrap (p+q)=p+q:=IntWalk.i64_in _ (by omega);have hsb:s.burn.size+8=s.size:=by unfold Ao.size Ao.burn;simp only;omega
   have hst:=Rr s.burn p (p+q) (E6 t);have hstl:=Hj s.burn p (p+q) (E6 t);have HL:=Hd (show 1≤s.left by omega);have f1:=HC.o.W.frozen 1;have hbc:=Ao8 HC.o (x:=s.left-1) rfl;have HBC:=Hd hbc;clear hbc;go_enter Tryz.func61,Tryz.ntmps61;go_upto_region 4 with fail
   replace HC:=Hd HBC.o.1;replace HX:=Hd (HX.o.to HBC.o.2);replace HB:=Hd (HB.o.trans HBC.o.2);clear HBC f1;generalize (w.alloc (.cells #[Aa Ab p,Aa Ab q,Aa Ab t,Aa Ab v] 75)).setCell ⟨E.bw,1,none⟩ (Aa Ab (s.left-1))=w1 at HC HX HB⊢;clear c0 c1 c2 c3 x0 x1 x2 x3;obtain⟨c0,c1,c2,c3⟩:=HC.o.cells;have x0:=Az HX.o.1;have x1:=Ax HX.o.1;have x2:=Aw HX.o.1;have x3:=A6 HX.o.1;go_region_held3 (fun w'=>w'.cell? ⟨E.bw,0,none⟩=some (.slice E.A E.n E.c)∧w'.cell? ⟨E.bw,3,none⟩=some (.func (.func 60) #[] #[.pointer (some ⟨E.bl,0,none⟩)])∧(w'.cell? ⟨w.heap.size,0,none⟩=some (Aa Ab p)∧w'.cell? ⟨w.heap.size,1,none⟩=some (Aa Ab q)∧w'.cell? ⟨w.heap.size,2,none⟩=some (Aa Ab t)∧w'.cell? ⟨w.heap.size,3,none⟩=some (Aa Ab v))) (first|with_reducible exact⟨c0,c3,x0,x1,x2,x3⟩|with_reducible exact⟨Ay c0,Ay c3,Ay x0,Ay x1,Ay x2,Ay x3⟩) (first|(go_at_call 104;(with_reducible refine(Ana t _).mono ?_);rintro e w2 ⟨rfl,hb⟩;replace HB:=Hd (HB.o.drew.below hb);replace HC:=Hd (HC.o.drew.pure hb);replace HX:=Hd (HX.o.drew.pure hb);clear c0 c1 c2 c3 x0 x1 x2 x3;clear hb;obtain⟨c0,c1,c2,c3⟩:=HC.o.cells;have x0:=Az HX.o.1;have x1:=Ax HX.o.1;have x2:=Aw HX.o.1;have x3:=A6 HX.o.1)|(go_at_call 60;(with_reducible refine(Gl p (p+q) (E6 t) HC.o (by have:=G1 s.burn;omega)).mono ?_);rintro e w3 ⟨rfl,g3,hC3,hT3⟩;replace HB:=Hd (HB.o.trans hT3);replace HX:=Hd (HX.o.to hT3);replace HC:=Hd hC3;clear c0 c1 c2 c3 x0 x1 x2 x3;clear hC3 hT3;obtain⟨c0,c1,c2,c3⟩:=HC.o.cells;have x0:=Az HX.o.1;have x1:=Ax HX.o.1;have x2:=Aw HX.o.1;have x3:=A6 HX.o.1));obtain⟨s1,hs1⟩:∃s1,s.burn.tell p (p+q) (E6 t)=s1:=⟨_,rfl⟩;rw [hs1] at hst hstl;have hss:Bq ⟨p,q,t,v⟩ s=s1:=hs1;have hsl1:s1.left.toNat<d:=by rw [hstl];unfold Ao.burn;simp only;omega
   have hss1:s1.size≤899999993:=by omega
   replace HC:=Hd (hs1▸HC.o);have HSS:=Hd hss;clear hs1 hst hstl hss hl hsb hwr hs hd hleft;go_wp2_with fail;go_at_call 90;by_cases hi:An t=true
   ·refine(Xx t true _ hi).mono ?_;rintro e w4 ⟨rfl,hb⟩;replace HB:=Hd (HB.o.below hb);replace HC:=Hd (HC.o.pure hb);replace HX:=Hd (HX.o.pure hb);clear c0 c1 c2 c3 x0 x1 x2 x3;clear hb;obtain⟨c0,c1,c2,c3⟩:=HC.o.cells;have x0:=Az HX.o.1;have x1:=Ax HX.o.1;have x2:=Aw HX.o.1;have x3:=A6 HX.o.1;have hR:Bl E.l (d+1) ⟨p,q,t,v⟩ s=(s1,0):=by unfold Bl;rw [if_neg (Int.not_lt.mpr HL.o),if_pos hi,HSS.o]
    have HR:=Hd hR;clear hR hi;go_wp2_with fail;go_ret;rw [HR.o];exact⟨rfl,_,HC.o,HB.o⟩
   ·have hi':An t=false:=by simpa using hi
    refine(Xx t false _ hi').mono ?_;rintro e w4 ⟨rfl,hb⟩;replace HB:=Hd (HB.o.below hb);replace HC:=Hd (HC.o.pure hb);replace HX:=Hd (HX.o.pure hb);clear c0 c1 c2 c3 x0 x1 x2 x3;clear hb;obtain⟨c0,c1,c2,c3⟩:=HC.o.cells;have x0:=Az HX.o.1;have x1:=Ax HX.o.1;have x2:=Aw HX.o.1;have x3:=A6 HX.o.1;have HI:=Hd hi;clear hi hi';obtain⟨a,ha⟩:∃a,Bg E.l p q t v=a:=⟨_,rfl⟩;obtain⟨er,her⟩:∃a,Bh E.l p q t v=a:=⟨_,rfl⟩;have HA:=Hd ha;have HER:=Hd her;clear ha her;go_wp2_with fail;go_region_held3 (fun w'=>w'.cell? ⟨E.bw,0,none⟩=some (.slice E.A E.n E.c)∧w'.cell? ⟨E.bw,3,none⟩=some (.func (.func 60) #[] #[.pointer (some ⟨E.bl,0,none⟩)])∧(w'.cell? ⟨w.heap.size,0,none⟩=some (Aa Ab p)∧w'.cell? ⟨w.heap.size,1,none⟩=some (Aa Ab q)∧w'.cell? ⟨w.heap.size,2,none⟩=some (Aa Ab t)∧w'.cell? ⟨w.heap.size,3,none⟩=some (Aa Ab v))) (first|with_reducible exact⟨c0,c3,x0,x1,x2,x3⟩|with_reducible exact⟨Ay c0,Ay c3,Ay x0,Ay x1,Ay x2,Ay x3⟩) (first|(go_at_call 91;(with_reducible refine(Ak8 E.A E.n E.c p q t v a er E.l _ HC.o.drew.b hcc (by omega) HA.o HER.o).mono ?_);rintro e w5 ⟨rfl,hb⟩;replace HB:=Hd (HB.o.drew.below hb);replace HC:=Hd (HC.o.drew.pure hb);replace HX:=Hd (HX.o.drew.pure hb);clear c0 c1 c2 c3 x0 x1 x2 x3;clear hb;obtain⟨c0,c1,c2,c3⟩:=HC.o.cells;have x0:=Az HX.o.1;have x1:=Ax HX.o.1;have x2:=Aw HX.o.1;have x3:=A6 HX.o.1));go_upto_region 9 with fail
    have HY:=Hd (Af.new w5 148 #[Aa Ab a,Aa Ab t,Aa Ab v]);replace HC:=Hd (HC.o.alloc (.cells #[Aa Ab a,Aa Ab t,Aa Ab v] 148));replace HX:=Hd (HX.o.pure ((Below.refl _ _).alloc (Ath _) (.cells #[Aa Ab a,Aa Ab t,Aa Ab v] 148)));replace HB:=Hd (HB.o.alloc (.cells #[Aa Ab a,Aa Ab t,Aa Ab v] 148));have hsp:Ea E.l ⟨p,q,t,v⟩=(a,t,v):=by unfold Ea;simp only [HA.o]
    have hun:Bl E.l (d+1) ⟨p,q,t,v⟩ s=if er≠0∨(a,t,v)∈s1.had then(s1,er) else Cy E.l (Bl E.l d) ⟨p,q,t,v⟩ (s1.see (a,t,v)):=by
     unfold Bl;rw [if_neg (Int.not_lt.mpr HL.o),if_neg HI.o,HSS.o,hsp,HER.o];have:s1.had=s.had:=by rw [←HSS.o];exact Jm _ _ _ _
     rw [this]
    have HUN:=Hd hun;clear hsp hun;clear c0 c1 c2 c3 x0 x1 x2 x3;generalize w5.alloc (.cells #[Aa Ab a,Aa Ab t,Aa Ab v] 148)=w6 at HC HX HB HY⊢;obtain⟨c0,c1,c2,c3⟩:=HC.o.cells;have x0:=Az HX.o.1;have x1:=Ax HX.o.1;have x2:=Aw HX.o.1;have x3:=A6 HX.o.1;obtain ⟨y0,y1,y2⟩:=HY.o.c3;by_cases her:er=0
    ·subst her;by_cases hm:(a,t,v)∈s1.had
     ·have hlk:(Instr.lookup 95 (.map (some E.bm)) (.agg #[Aa Ab a,Aa Ab t,Aa Ab v]) false).run Tryz.prog w6.drew= .ok (.bool true) w6.drew:=by
       have:=Yk Tryz.underlying95 Tryz.underlying148 Wq Wp Yn E.bm s1.had (a,t,v) w6.drew HC.o.drew.M;rw [decide_eq_true hm] at this;exact this
      have hr:=HUN.o;rw [if_pos (.inr hm)] at hr;have HR:=Hd hr;clear hr hm;go_region_held3 (fun w'=>w'.cell? ⟨E.bw,2,none⟩=some (.map (some E.bm))∧(w'.cell? ⟨w5.heap.size,0,none⟩=some (Aa Ab a)∧w'.cell? ⟨w5.heap.size,1,none⟩=some (Aa Ab t)∧w'.cell? ⟨w5.heap.size,2,none⟩=some (Aa Ab v))) (first|with_reducible exact⟨c2,y0,y1,y2⟩|with_reducible exact⟨Ay c2,Ay y0,Ay y1,Ay y2⟩) (fail);go_wp2_with fail;go_ret;rw [HR.o];exact⟨rfl,_,HC.o.drew,HB.o.drew⟩
     ·have hlk:(Instr.lookup 95 (.map (some E.bm)) (.agg #[Aa Ab a,Aa Ab t,Aa Ab v]) false).run Tryz.prog w6.drew= .ok (.bool false) w6.drew:=by
       have:=Yk Tryz.underlying95 Tryz.underlying148 Wq Wp Yn E.bm s1.had (a,t,v) w6.drew HC.o.drew.M;rw [decide_eq_false hm] at this;exact this
      have hr:=HUN.o;rw [if_neg (by simp [hm])] at hr;have HR:=Hd hr;obtain⟨w7,hins,hM7,hf7,hsz7⟩:=Anp Tryz.underlying95 Tryz.underlying148 Wq Wp E.bm s1.had (a,t,v) w6.drew.drew HC.o.drew.drew.M hm;obtain⟨hC7,hT7⟩:=Arz HC.o.drew.drew (a,t,v) hM7 hf7;have HC7:=Hd hC7;have HX7:=Hd (HX.o.drew.drew.to hT7);have HB7:=Hd (HB.o.drew.drew.trans hT7);replace hins:(Instr.mapUpdate 95 (.map (some E.bm)) (.agg #[.int .i64 a,.int .i64 t,.int .i64 v]) (.bool true)).run Tryz.prog w6.drew.drew= .ok () w7:=hins;have d2:=HC7.o.cells.2.2.1;have hyb:w5.heap.size≠E.bm:=by
       have:=HY.o;have h2:=HC.o.M;rintro e;obtain⟨es,k,hb,_⟩:=h2;rw [←e] at hb;unfold Af at this;rw [this] at hb;cases hb
      have HY7:=Hd (HY.o.drew.drew.fr hf7 hyb);obtain ⟨z0,z1,z2⟩:=HY7.o.c3;clear hr hm hM7 hf7 hsz7 hC7 hT7 hyb HUN HSS HL HA HER HI;go_region_held3 (fun w'=>w'.cell? ⟨E.bw,2,none⟩=some (.map (some E.bm))∧(w'.cell? ⟨w5.heap.size,0,none⟩=some (Aa Ab a)∧w'.cell? ⟨w5.heap.size,1,none⟩=some (Aa Ab t)∧w'.cell? ⟨w5.heap.size,2,none⟩=some (Aa Ab v))) (first|with_reducible exact⟨c2,y0,y1,y2⟩|with_reducible exact⟨Ay c2,Ay y0,Ay y1,Ay y2⟩) (fail);go_wp2_with fail;go_region_held3 (fun w'=>w'.cell? ⟨E.bw,2,none⟩=some (.map (some E.bm))∧(w'.cell? ⟨w5.heap.size,0,none⟩=some (Aa Ab a)∧w'.cell? ⟨w5.heap.size,1,none⟩=some (Aa Ab t)∧w'.cell? ⟨w5.heap.size,2,none⟩=some (Aa Ab v))) (first|with_reducible exact⟨c2,y0,y1,y2⟩|with_reducible exact⟨Ay c2,Ay y0,Ay y1,Ay y2⟩|with_reducible exact⟨Ay (Ay c2),Ay (Ay y0),Ay (Ay y1),Ay (Ay y2)⟩|with_reducible exact⟨d2,z0,z1,z2⟩) (fail);obtain⟨s2,hs2⟩:∃s2,s1.see (a,t,v)=s2:=⟨_,rfl⟩;have hl2:s2.left.toNat<d:=by subst hs2;exact hsl1
      have hz2:s2.size≤899999993:=by subst hs2;exact hss1
      rw [hs2] at HC7 HR;clear hs2 hlk hins d2 z0 z1 z2 y0 y1 y2 HY HY7 hsl1 hss1;clear c0 c1 c2 c3 x0 x1 x2 x3;clear HC HX HB;have HC:=HC7;have HX:=HX7;have HB:=HB7;clear HC7 HX7 HB7;obtain⟨c0,c1,c2,c3⟩:=HC.o.cells;have x0:=Az HX.o.1;have x1:=Ax HX.o.1;have x2:=Aw HX.o.1;have x3:=A6 HX.o.1;by_cases h4:t=4
      ·subst h4;obtain⟨y,hy⟩:∃y,C7 E.l ⟨p,q,4,v⟩ s2=y:=⟨_,rfl⟩;have hspec:=N0 E _ s2 p q 4 v _ HC.o (by have:=G1 s2;omega);rw [hy] at hspec;have hdat:=HR.o.trans (show Cy E.l (Bl E.l d) ⟨p,q,4,v⟩ s2=C7 E.l ⟨p,q,4,v⟩ s2 from rfl);rw [hy] at hdat;have HSP:=Hd hspec;have HDD:=Hd hdat;clear hy hspec hdat;go_wp2_with fail;go_at_call 105;refine HSP.o.mono ?_;rintro e w8 ⟨rfl,g8,hC8,hT8⟩;have HC8:=Hd hC8;have HT8:=Hd hT8;clear c0 c1 c2 c3 x0 x1 x2 x3;clear hC8 hT8 HSP;go_wp2_with fail;go_ret;rw [HDD.o];exact⟨rfl,_,HC8.o,HB.o.trans HT8.o⟩
      have e4:(t==4)=false:=beq_eq_false_iff_ne.mpr h4;by_cases h5:t=5
      ·subst h5;obtain⟨y,hy⟩:∃y,C7 E.l ⟨p,q,5,v⟩ s2=y:=⟨_,rfl⟩;have hspec:=N0 E _ s2 p q 5 v _ HC.o (by have:=G1 s2;omega);rw [hy] at hspec;have hdat:=HR.o.trans (show Cy E.l (Bl E.l d) ⟨p,q,5,v⟩ s2=C7 E.l ⟨p,q,5,v⟩ s2 from rfl);rw [hy] at hdat;have HSP:=Hd hspec;have HDD:=Hd hdat;clear hy hspec hdat;go_wp2_with fail;go_at_call 105;refine HSP.o.mono ?_;rintro e w8 ⟨rfl,g8,hC8,hT8⟩;have HC8:=Hd hC8;have HT8:=Hd hT8;clear c0 c1 c2 c3 x0 x1 x2 x3;clear hC8 hT8 HSP;go_wp2_with fail;go_ret;rw [HDD.o];exact⟨rfl,_,HC8.o,HB.o.trans HT8.o⟩
      have e5:(t==5)=false:=beq_eq_false_iff_ne.mpr h5;by_cases h25:t=25
      ·subst h25;obtain⟨y,hy⟩:∃y,C7 E.l ⟨p,q,25,v⟩ s2=y:=⟨_,rfl⟩;have hspec:=N0 E _ s2 p q 25 v _ HC.o (by have:=G1 s2;omega);rw [hy] at hspec;have hdat:=HR.o.trans (show Cy E.l (Bl E.l d) ⟨p,q,25,v⟩ s2=C7 E.l ⟨p,q,25,v⟩ s2 from rfl);rw [hy] at hdat;have HSP:=Hd hspec;have HDD:=Hd hdat;clear hy hspec hdat;go_wp2_with fail;go_at_call 105;refine HSP.o.mono ?_;rintro e w8 ⟨rfl,g8,hC8,hT8⟩;have HC8:=Hd hC8;have HT8:=Hd hT8;clear c0 c1 c2 c3 x0 x1 x2 x3;clear hC8 hT8 HSP;go_wp2_with fail;go_ret;rw [HDD.o];exact⟨rfl,_,HC8.o,HB.o.trans HT8.o⟩
      have e25:(t==25)=false:=beq_eq_false_iff_ne.mpr h25;by_cases h6:t=6
      ·subst h6;obtain⟨y,hy⟩:∃y,C6 E.l ⟨p,q,6,v⟩ s2=y:=⟨_,rfl⟩;have hspec:=Qs E _ s2 p q 6 v _ HC.o (by have:=G1 s2;omega);rw [hy] at hspec;have hdat:=HR.o.trans (show Cy E.l (Bl E.l d) ⟨p,q,6,v⟩ s2=C6 E.l ⟨p,q,6,v⟩ s2 from rfl);rw [hy] at hdat;have HSP:=Hd hspec;have HDD:=Hd hdat;clear hy hspec hdat;go_wp2_with fail;go_at_call 106;refine HSP.o.mono ?_;rintro e w8 ⟨rfl,g8,hC8,hT8⟩;have HC8:=Hd hC8;have HT8:=Hd hT8;clear c0 c1 c2 c3 x0 x1 x2 x3;clear hC8 hT8 HSP;go_wp2_with fail;go_ret;rw [HDD.o];exact⟨rfl,_,HC8.o,HB.o.trans HT8.o⟩
      have e6:(t==6)=false:=beq_eq_false_iff_ne.mpr h6;by_cases h7:t=7
      ·subst h7;obtain⟨y,hy⟩:∃y,C6 E.l ⟨p,q,7,v⟩ s2=y:=⟨_,rfl⟩;have hspec:=Qs E _ s2 p q 7 v _ HC.o (by have:=G1 s2;omega);rw [hy] at hspec;have hdat:=HR.o.trans (show Cy E.l (Bl E.l d) ⟨p,q,7,v⟩ s2=C6 E.l ⟨p,q,7,v⟩ s2 from rfl);rw [hy] at hdat;have HSP:=Hd hspec;have HDD:=Hd hdat;clear hy hspec hdat;go_wp2_with fail;go_at_call 106;refine HSP.o.mono ?_;rintro e w8 ⟨rfl,g8,hC8,hT8⟩;have HC8:=Hd hC8;have HT8:=Hd hT8;clear c0 c1 c2 c3 x0 x1 x2 x3;clear hC8 hT8 HSP;go_wp2_with fail;go_ret;rw [HDD.o];exact⟨rfl,_,HC8.o,HB.o.trans HT8.o⟩
      have e7:(t==7)=false:=beq_eq_false_iff_ne.mpr h7;have hdata:Cy E.l (Bl E.l d) ⟨p,q,t,v⟩ s2=Dy E.l (Bl E.l d) ⟨p,q,t,v⟩ s2:=by
       unfold Cy;rw [if_neg (by simp [Fw];omega),if_neg (by simp only;omega)]
      have HDT:=Hd hdata;clear hdata h4 h5 h25 h6 h7;obtain⟨y,hy⟩:∃y,Dy E.l (Bl E.l d) ⟨p,q,t,v⟩ s2=y:=⟨_,rfl⟩;have hspec:=Ada E _ d HIH.o (Qn E.l d) _ s2 p q t v _ HC.o hl2 (by omega);rw [hy] at hspec;have hdat:=HR.o.trans (show Cy E.l (Bl E.l d) ⟨p,q,t,v⟩ s2=Dy E.l (Bl E.l d) ⟨p,q,t,v⟩ s2 from HDT.o);rw [hy] at hdat;have HSP:=Hd hspec;have HDD:=Hd hdat;clear hy hspec hdat;go_wp2_with fail;go_at_call 107;refine HSP.o.mono ?_;rintro e w8 ⟨rfl,g8,hC8,hT8⟩;have HC8:=Hd hC8;have HT8:=Hd hT8;clear c0 c1 c2 c3 x0 x1 x2 x3;clear hC8 hT8 HSP;go_wp2_with fail;go_ret;rw [HDD.o];exact⟨rfl,_,HC8.o,HB.o.trans HT8.o⟩
    ·have hne:(er != 0)=true:=by simpa using her
     have hr:=HUN.o;rw [if_pos (.inl her)] at hr;have HR:=Hd hr;clear hr her;go_quiet (fail);go_wp2_with fail;go_ret;rw [HR.o];exact⟨rfl,_,HC.o.pure (below_drewN (Below.refl _ _) _),HB.o.below (below_drewN (Below.refl _ _) _)⟩
end Go.Proofs.YtgbjodnegkbfoaaGreat
namespace Go.Proofs.YtgbjodnegkbfoaaGreat
open Go.Shelf Go.RowKit Go.Lib Go.Acc
def Ab9:Go.Shelf.Ren:=⟨fun|6=>108|15=>191|14=>190|28=>291|29=>101|20=>283|21=>284|22=>285|23=>286|24=>287|25=>288|26=>289|27=>290|46=>352|47=>353|48=>354|49=>355|50=>356|57=>395|n=>n,fun|22=>45|24=>49|25=>102|3=>3|39=>146|0=>0|53=>335|55=>22|4=>4|46=>329|45=>328|50=>118|5=>5|9=>9|66=>368|70=>372|76=>406|77=>336|n=>n,fun|n=>n⟩
theorem Ans:Go.Proofs.SlLaysF0.n6 Tryz.prog Ab9:={
 mixed:=by kernel_rfl
 f6:=⟨Tryz.f108.name,by decide,Tryz.func108.trans (congrArg some (by kernel_rfl))⟩
 f14:=⟨Tryz.f190.name,by decide,Tryz.func190.trans (congrArg some (by kernel_rfl))⟩
 f15:=Tryz.func191.trans (congrArg some (by kernel_rfl))
 f20:=⟨Tryz.f283.name,by decide,Tryz.func283.trans (congrArg some (by kernel_rfl))⟩
 f21:=⟨Tryz.f284.name,by decide,Tryz.func284.trans (congrArg some (by kernel_rfl))⟩
 f22:=⟨Tryz.f285.name,by decide,Tryz.func285.trans (congrArg some (by kernel_rfl))⟩
 f23:=⟨Tryz.f286.name,by decide,Tryz.func286.trans (congrArg some (by kernel_rfl))⟩
 f24:=⟨Tryz.f287.name,by decide,Tryz.func287.trans (congrArg some (by kernel_rfl))⟩
 f25:=⟨Tryz.f288.name,by decide,Tryz.func288.trans (congrArg some (by kernel_rfl))⟩
 f26:=⟨Tryz.f289.name,by decide,Tryz.func289.trans (congrArg some (by kernel_rfl))⟩
 f27:=⟨Tryz.f290.name,by decide,Tryz.func290.trans (congrArg some (by kernel_rfl))⟩
 f28:=Tryz.func291.trans (congrArg some (by kernel_rfl))
 f29:=Tryz.func101.trans (congrArg some (by kernel_rfl))
 f46:=⟨Tryz.f352.name,by decide,Tryz.func352.trans (congrArg some (by kernel_rfl))⟩
 f47:=Tryz.func353.trans (congrArg some (by kernel_rfl))
 f48:=Tryz.func354.trans (congrArg some (by kernel_rfl))
 f49:=⟨Tryz.f355.name,by decide,Tryz.func355.trans (congrArg some (by kernel_rfl))⟩
 f50:=⟨Tryz.f356.name,by decide,Tryz.func356.trans (congrArg some (by kernel_rfl))⟩
 f57:=⟨Tryz.f395.name,by decide,Tryz.func395.trans (congrArg some (by kernel_rfl))⟩
 t0:=Tryz.underlying0
 a0:=Tryz.isAgg0
 z0:=Tryz.sizeOf0
 v0:=Tryz.zeroValue0
 t3:=Tryz.underlying3
 a3:=Tryz.isAgg3
 z3:=Tryz.sizeOf3
 v3:=Tryz.zeroValue3
 t4:=Tryz.underlying4
 a4:=Tryz.isAgg4
 z4:=Tryz.sizeOf4
 v4:=Tryz.zeroValue4
 t5:=Tryz.underlying5
 a5:=Tryz.isAgg5
 z5:=Tryz.sizeOf5
 v5:=Tryz.zeroValue5
 t9:=Tryz.underlying9
 a9:=Tryz.isAgg9
 z9:=Tryz.sizeOf9
 v9:=Tryz.zeroValue9
 t22:=Tryz.underlying45
 a22:=Tryz.isAgg45
 z22:=Tryz.sizeOf45
 v22:=Tryz.zeroValue45
 t25:=Tryz.underlying102
 a25:=Tryz.isAgg102
 z25:=Tryz.sizeOf102
 v25:=Tryz.zeroValue102
 t39:=Tryz.underlying146
 a39:=Tryz.isAgg146
 z39:=Tryz.sizeOf146
 v39:=Tryz.zeroValue146
 t45:=Tryz.underlying328
 a45:=Tryz.isAgg328
 z45:=Tryz.sizeOf328
 v45:=Tryz.zeroValue328
 t46:=Tryz.underlying329
 a46:=Tryz.isAgg329
 z46:=Tryz.sizeOf329
 v46:=Tryz.zeroValue329
 t50:=Tryz.underlying118
 a50:=Tryz.isAgg118
 z50:=Tryz.sizeOf118
 v50:=Tryz.zeroValue118
 t53:=Tryz.underlying335
 a53:=Tryz.isAgg335
 z53:=Tryz.sizeOf335
 v53:=Tryz.zeroValue335
 t55:=Tryz.underlying22
 a55:=Tryz.isAgg22
 z55:=Tryz.sizeOf22
 v55:=Tryz.zeroValue22
 t66:=Tryz.underlying368
 a66:=Tryz.isAgg368
 z66:=Tryz.sizeOf368
 v66:=Tryz.zeroValue368
 t70:=Tryz.underlying372
 a70:=Tryz.isAgg372
 z70:=Tryz.sizeOf372
 v70:=Tryz.zeroValue372
 t76:=Tryz.underlying406
 a76:=Tryz.isAgg406
 z76:=Tryz.sizeOf406
 v76:=Tryz.zeroValue406
 t77:=Tryz.underlying336
 a77:=Tryz.isAgg336
 z77:=Tryz.sizeOf336
 v77:=Tryz.zeroValue336}
def Af7:Go.Shelf.Ren:=⟨fun|5=>65|7=>110|n=>n,fun|22=>3|3=>3|4=>4|n=>n,fun|n=>n⟩
theorem Arb:Go.Proofs.SlLaysC2.n5 Tryz.prog Af7:={
 mixed:=by kernel_rfl
 f5:=⟨Tryz.f65.name,by decide,Tryz.func65.trans (congrArg some (by kernel_rfl))⟩
 f7:=⟨Tryz.f110.name,by decide,Tryz.func110.trans (congrArg some (by kernel_rfl))⟩
 t3:=Tryz.underlying3
 a3:=Tryz.isAgg3
 z3:=Tryz.sizeOf3
 v3:=Tryz.zeroValue3
 t4:=Tryz.underlying4
 a4:=Tryz.isAgg4
 z4:=Tryz.sizeOf4
 v4:=Tryz.zeroValue4
 t22:=Tryz.underlying3
 a22:=Tryz.isAgg3
 z22:=Tryz.sizeOf3
 v22:=Tryz.zeroValue3}
end Go.Proofs.YtgbjodnegkbfoaaGreat
