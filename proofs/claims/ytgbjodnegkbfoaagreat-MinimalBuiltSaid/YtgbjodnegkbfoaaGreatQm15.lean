/- Parts of the proof. -/
import Derived.Test.YtgbjodnegkbfoaaGreatQm14
set_option maxHeartbeats 4000000
set_option maxRecDepth 100000
open Go.Value renaming int→Aa
open Go.IntKind renaming i64→Ab
open Nat renaming le_refl→Asp
open Int renaming toNat_natCast→Asv
namespace Go.Proofs.YtgbjodnegkbfoaaGreat
open Go.RowKit Go.Acc
def Ani(E:Hm)(go:Rq→Ay→Ay×Int)(r:Rq)(N:Nat)(F:Ay×Int)(b:Nat)(w0:World)(g:Option Nat)(s0:Ay)(u8 u10:Value)(wr:World):Prop:=
 ∃(i:Nat) (s:Ay) (e:Int) (g':Option Nat),u8= Aa Ab e∧u10= Aa Ab i∧i≤N∧Er E g' s wr∧Dq E g g' w0 wr∧Hn E g' wr b 75 #[Aa Ab r.p,Aa Ab r.q,Aa Ab r.t,Aa Ab r.v]∧
  (e=0→s.left≤s0.left∧s.size≤s0.size+1∧Ep E.l go r (N-i) i s=F)∧(e≠0→F=(s,e))
theorem Afd{l:List UInt8}{p q t v:Int}{i:Nat}(h:Bs l p q t v=0)(hi:i<lsLen l p q t v)(ha:Es l p q t v i=0):Ly l.length (Bw l ⟨p,q,t,v⟩ i):=by
 obtain⟨h1,h2,_,h4⟩:=Kn h;have h5:i*v.toNat+v.toNat≤lsLen l p q t v*v.toNat:=by
  rw [←Nat.succ_mul];exact Nat.mul_le_mul_right _ hi
 have h6:lsLen l p q t v*v.toNat≤lsLen l p q t v*(v.toNat+tgs t):=Nat.mul_le_mul_left _ (Nat.le_add_right _ _);unfold Ly Bw Ij Ik;simp only [if_pos ha];generalize lsLen l p q t v*(v.toNat+tgs t)=X at*;generalize lsLen l p q t v*v.toNat=Y at*;rw [Asv];generalize i*v.toNat=Z at*;omega
theorem Aro{l:List UInt8}{p q t v:Int}(h:Bs l p q t v=0):lsTo l p q t v=lsAt l p q t v+lsLen l p q t v*(v.toNat+tgs t):=by
 unfold lsTo lsAt lsLen;rw [if_pos h,if_pos h,if_pos h];rfl
theorem Z4{l:List UInt8}{go:Rq→Ay→Ay×Int}{r x:Rq}{N i:Nat}{s st:Ay}{y F:Ay×Int}(h:Es l r.p r.q r.t r.v i=0)(hst:Fh l r i s=st)(hat:Bw l r i=x)(hy:go x st=y)(hi:i<N)(hF:Ep l go r (N-i) i s=F):
  (y.2=0→Ep l go r (N-(i+1)) (i+1) y.1=F)∧(y.2≠0→F=(y.1,y.2)):=by
 obtain⟨k,hk⟩:∃k,N-i=k+1:=⟨N-i-1,by omega⟩;have hk2:N-(i+1)=k:=by omega
 rw [hk,Ep,if_neg (by rw [h];decide),hst,hat,hy] at hF;rw [hk2];refine⟨fun h0=>?_,fun h0=>?_⟩
 ·rw [if_neg (by rw [h0];decide)] at hF;exact hF
 ·rw [if_pos h0] at hF;exact hF.symm
theorem Z3{l:List UInt8}{go:Rq→Ay→Ay×Int}{r:Rq}{N i:Nat}{s st:Ay}{F:Ay×Int}{ee:Int}(h:Es l r.p r.q r.t r.v i=ee)(he:ee≠0)(hst:Fh l r i s=st)(hi:i<N)(hF:Ep l go r (N-i) i s=F):F=(st,ee):=by
 obtain⟨k,hk⟩:∃k,N-i=k+1:=⟨N-i-1,by omega⟩;rw [hk,Ep,if_pos (by rw [h];exact he),hst,h] at hF;exact hF.symm
theorem Acq(E:Hm)(go:Rq→Ay→Ay×Int)(d:Nat)(hgo:V1 E go d)(hgoes:Pv go)(g:Option Nat)(s:Ay)(p q t v:Int)(w:World)(h:Er E g s w)(hd:s.left.toNat<d)(hs:s.size≤899999993):
  Calls Tryz.prog 107 #[.pointer (some ⟨E.bw,0,none⟩),.agg #[Aa Ab p,Aa Ab q,Aa Ab t,Aa Ab v]] w (Tz E g w (Fx E.l go ⟨p,q,t,v⟩ s)):=by
 have HC:=Hd (h.alloc (.cells #[Aa Ab p,Aa Ab q,Aa Ab t,Aa Ab v] 75));have HX:=Hd (h.lone 75 #[Aa Ab p,Aa Ab q,Aa Ab t,Aa Ab v]);have HB:=Hd ((Dq.refl E g w).alloc (.cells #[Aa Ab p,Aa Ab q,Aa Ab t,Aa Ab v] 75));have HGO:=Hd hgo;have HGS:=Hd hgoes;obtain⟨f,hf⟩:∃f:Int,(lsFrom E.l p q t v:Int)=f:=⟨_,rfl⟩;obtain⟨a,ha⟩:∃a:Int,(lsAt E.l p q t v:Int)=a:=⟨_,rfl⟩;obtain⟨o,ho⟩:∃a:Int,(lsTo E.l p q t v:Int)=a:=⟨_,rfl⟩;obtain⟨N,hN⟩:∃N:Nat,lsLen E.l p q t v=N:=⟨_,rfl⟩;obtain⟨er,he⟩:∃a,Bs E.l p q t v=a:=⟨_,rfl⟩;have HF:=Hd hf;have HAA:=Hd ha;have HO:=Hd ho;have HN:=Hd hN;have HNI:=Hd (show(lsLen E.l p q t v:Int)=(N:Int) by rw [hN]);have HEE:=Hd he;have hcc:=h.ok.hc;have hnn:=h.ok.hn;have hlen:=h.len;clear h hf ha ho hN he hgo hgoes;obtain⟨c0,c1,c2,c3⟩:=HC.o.cells;have x0:=Al HX.o.1;have x1:=Ak HX.o.1;have x2:=Aj HX.o.1;have x3:=Am HX.o.1;go_enter Tryz.func107,Tryz.ntmps107;go_wp2_with fail;go_region_held3 (fun w'=>w'.cell? ⟨E.bw,0,none⟩=some (.slice E.A E.n E.c)∧w'.cell? ⟨E.bw,3,none⟩=some (.func (.func 60) #[] #[.pointer (some ⟨E.bl,0,none⟩)])∧(w'.cell? ⟨w.heap.size,0,none⟩=some (Aa Ab p)∧w'.cell? ⟨w.heap.size,1,none⟩=some (Aa Ab q)∧w'.cell? ⟨w.heap.size,2,none⟩=some (Aa Ab t)∧w'.cell? ⟨w.heap.size,3,none⟩=some (Aa Ab v))) (first|with_reducible exact⟨c0,c3,x0,x1,x2,x3⟩|with_reducible exact⟨Ah c0,Ah c3,Ah x0,Ah x1,Ah x2,Ah x3⟩) (first|(go_at_call 173;(with_reducible refine(S9 E.A E.n E.c p q t v f a o er E.l _ HC.o.drew.b hcc (by omega) HF.o HAA.o HO.o HEE.o).mono ?_);rintro e w1 ⟨rfl,hb1⟩;replace HB:=Hd (HB.o.drew.below hb1);replace HC:=Hd (HC.o.drew.pure hb1);replace HX:=Hd (HX.o.drew.pure hb1);clear c0 c1 c2 c3 x0 x1 x2 x3;clear hb1;obtain⟨c0,c1,c2,c3⟩:=HC.o.cells;have x0:=Al HX.o.1;have x1:=Ak HX.o.1;have x2:=Aj HX.o.1;have x3:=Am HX.o.1));by_cases he:er=0
 ·subst he;obtain⟨hv1,hv8,hroom,hle⟩:=Kn HEE.o;have hto:=Aro HEE.o;obtain⟨V,rfl⟩:∃V:Nat,v=V:=⟨v.toNat,by omega⟩;rw [Asv,HN.o] at hle hto;rw [Asv] at hroom;have hNV:N*V≤N*(V+tgs t):=Nat.mul_le_mul_left _ (Nat.le_add_right _ _);have HLE:=Hd hle;have HTO:=Hd hto;have HNV:=Hd hNV;have HRM:=Hd hroom;clear hle hto hNV hroom;go_wp2_with fail;go_region_held3 (fun w'=>w'.cell? ⟨E.bw,0,none⟩=some (.slice E.A E.n E.c)∧w'.cell? ⟨E.bw,3,none⟩=some (.func (.func 60) #[] #[.pointer (some ⟨E.bl,0,none⟩)])∧(w'.cell? ⟨w.heap.size,0,none⟩=some (Aa Ab p)∧w'.cell? ⟨w.heap.size,1,none⟩=some (Aa Ab q)∧w'.cell? ⟨w.heap.size,2,none⟩=some (Aa Ab t)∧w'.cell? ⟨w.heap.size,3,none⟩=some (Aa Ab V))) (first|with_reducible exact⟨c0,c3,x0,x1,x2,x3⟩|with_reducible exact⟨Ah c0,Ah c3,Ah x0,Ah x1,Ah x2,Ah x3⟩) (first|(go_at_call 175;(with_reducible refine(Wg E.A E.n E.c p q t V N 0 E.l _ HC.o.drew.b hcc (by omega) HNI.o HEE.o).mono ?_);rintro e w1 ⟨rfl,hb1⟩;replace HB:=Hd (HB.o.drew.below hb1);replace HC:=Hd (HC.o.drew.pure hb1);replace HX:=Hd (HX.o.drew.pure hb1);clear c0 c1 c2 c3 x0 x1 x2 x3;clear hb1;obtain⟨c0,c1,c2,c3⟩:=HC.o.cells;have x0:=Al HX.o.1;have x1:=Ak HX.o.1;have x2:=Aj HX.o.1;have x3:=Am HX.o.1));obtain⟨y,hy⟩:∃y,Fk E.l go ⟨p,q,t,V⟩ s=y:=⟨_,rfl⟩;have HY:=Hd hy;clear hy;go_upto_if 42 with fail
  go_cut [8] (fun u8 wx=>∃wy,wy=wx∧u8= Aa Ab y.2∧∃g',Er E g' y.1 wx∧Dq E g g' w wx∧Hn E g' wx w.heap.size 75 #[Aa Ab p,Aa Ab q,Aa Ab t,Aa Ab V])
  case first=>
   by_cases h9:t=9
   ·subst h9;have hy:=HY.o;unfold Fk at hy;rw [if_pos rfl] at hy;have hk:=Acp E go d HGO.o HGS.o g s p q 9 V f _ HC.o hd (by omega) HF.o;rw [hy] at hk;have HK:=Hd hk;clear hy hk;go_wp2_with fail;go_at_call 189;refine HK.o.mono ?_;rintro e w2 ⟨rfl,g2,hC,hT⟩;have HC2:=Hd hC;have HT2:=Hd hT;clear hC hT HK;go_wp2_with fail;go_meet;exact⟨_,rfl,rfl,g2,HC2.o,HB.o.trans HT2.o,HX.o.to HT2.o⟩
   ·have hy:=HY.o;unfold Fk at hy;rw [if_neg h9] at hy;subst hy;have e9:(t==9)=false:=beq_eq_false_iff_ne.mpr h9;clear h9;go_wp2_with fail;go_meet;exact⟨_,rfl,rfl,g,HC.o,HB.o,HX.o⟩
  case rest=>
  obtain⟨w2,rfl,rfl,g2,hC2,hT2,hX2⟩:=hcut;have HC:=Hd hC2;have HB:=Hd hT2;have HX:=Hd hX2;clear hC2 hT2 hX2;clear c0 c1 c2 c3 x0 x1 x2 x3;obtain⟨c0,c1,c2,c3⟩:=HC.o.cells;have x0:=Al HX.o.1;have x1:=Ak HX.o.1;have x2:=Aj HX.o.1;have x3:=Am HX.o.1;go_upto_region 7 with fail
  go_cut [53] (fun u53 wx=>∃wy,wy=wx∧u53= .bool (decide (y.2=0∧f<a))∧wx=w2)
  case first=>
   clear c0 c1 c2 c3 x0 x1 x2 x3;clear HC HB HX;by_cases hy0:y.2=0
   ·have hyb:(y.2==0)=true:=by simpa using hy0
    have HY0:=Hd hy0;clear hy0;by_cases hfa:f<a
    ·have HD:=Hd (show decide (y.2=0∧f<a)=true from decide_eq_true ⟨HY0.o,hfa⟩);go_wp2_with fail;go_meet;rw [HD.o];exact⟨_,rfl,rfl,rfl⟩
    ·have HD:=Hd (show decide (y.2=0∧f<a)=false from decide_eq_false fun h=>hfa h.2);have hfd:decide (f<a)=false:=decide_eq_false hfa;clear hfa;go_wp2_with fail;go_meet;rw [HD.o];exact⟨_,rfl,rfl,rfl⟩
   ·have hyb:(y.2==0)=false:=beq_eq_false_iff_ne.mpr hy0;have HD:=Hd (show decide (y.2=0∧f<a)=false from decide_eq_false fun h=>hy0 h.1);clear hy0;go_wp2_with fail;go_meet;rw [HD.o];exact⟨_,rfl,rfl,rfl⟩
  case rest=>
  obtain⟨w2,rfl,rfl,rfl⟩:=hcut;obtain⟨z,hz⟩:∃z,(if y.2=0 then Js E.l ⟨p,q,t,V⟩ y.1 else y.1)=z:=⟨_,rfl⟩;have HZ:=Hd hz;have hgrow:=Qh (l:=E.l) ⟨p,q,t,V⟩ HGS.o s;rw [HY.o] at hgrow;have hgr2:=Aa0 (l:=E.l) ⟨p,q,t,V⟩ y.1;have hgz:z.left≤s.left∧z.size≤s.size+1:=by
   subst hz;split
   ·exact⟨Int.le_trans hgr2.1 hgrow.1,by have:=hgr2.2;have:=hgrow.2;omega⟩
   ·exact⟨hgrow.1,by have:=hgrow.2;omega⟩
  have hyo:y.1.o.length≤899999993:=by have:=Gp y.1;have:=hgrow.2;omega
  have hzl:=hgz.1;have hzs:=hgz.2;clear hz hgrow hgr2 hgz;go_upto_if 53 with fail
  go_cut [] (fun wx=>∃wy,wy=wx∧∃g',Er E g' z wx∧Dq E g g' w wx∧Hn E g' wx w.heap.size 75 #[Aa Ab p,Aa Ab q,Aa Ab t,Aa Ab V])
  case first=>
   by_cases hc:y.2=0∧f<a
   ·have hd:decide (y.2=0∧f<a)=true:=decide_eq_true hc;rw [hd];have hz:=HZ.o;rw [if_pos hc.1] at hz;unfold Js at hz;rw [if_pos (by have h1:=HF.o;have h2:=HAA.o;have:=hc.2;simp only;omega)] at hz;have hz2:y.1.tell (a-V) a 6=z:=by rw [←hz];simp only [HAA.o]
    replace HZ:=Hd hz2;have ha0:0≤a:=by have:=HAA.o;omega
    have ha1:a≤4294967296:=by have h1:=HAA.o;have h2:=HLE.o;omega
    have hw1:IntKind.i64.wrap (a-V)=a-V:=IntWalk.i64_in _ (by omega);clear hz hz2 hd hc;go_wp2_with fail;go_region_held3 (fun w'=>w'.cell? ⟨E.bw,0,none⟩=some (.slice E.A E.n E.c)∧w'.cell? ⟨E.bw,3,none⟩=some (.func (.func 60) #[] #[.pointer (some ⟨E.bl,0,none⟩)])∧(w'.cell? ⟨w.heap.size,0,none⟩=some (Aa Ab p)∧w'.cell? ⟨w.heap.size,1,none⟩=some (Aa Ab q)∧w'.cell? ⟨w.heap.size,2,none⟩=some (Aa Ab t)∧w'.cell? ⟨w.heap.size,3,none⟩=some (Aa Ab V))) (first|with_reducible exact⟨c0,c3,x0,x1,x2,x3⟩|with_reducible exact⟨Ah c0,Ah c3,Ah x0,Ah x1,Ah x2,Ah x3⟩) (first|(go_at_call 60;(with_reducible refine(Gb (a-V) a 6 HC.o.drew (by omega)).mono ?_);rintro e w3 ⟨rfl,g3,hC3,hT3⟩;replace HB:=Hd (HB.o.drew.trans hT3);replace HX:=Hd (HX.o.drew.to hT3);replace HC:=Hd hC3;clear c0 c1 c2 c3 x0 x1 x2 x3;clear hC3 hT3;obtain⟨c0,c1,c2,c3⟩:=HC.o.cells;have x0:=Al HX.o.1;have x1:=Ak HX.o.1;have x2:=Aj HX.o.1;have x3:=Am HX.o.1));go_wp2_with fail;go_meet;rw [←HZ.o];exact⟨_,rfl,_,HC.o,HB.o,HX.o⟩
   ·have hd:decide (y.2=0∧f<a)=false:=decide_eq_false hc;rw [hd];have hz:=HZ.o;have e:z=y.1:=by
     subst hz;split
     ·rename_i h0;unfold Js;rw [if_neg];intro h;exact hc ⟨h0,by have h1:=HF.o;have h2:=HAA.o;simp only at h;omega⟩
     ·rfl
    subst e;clear hz hd hc;go_wp2_with fail;go_meet;exact⟨_,rfl,_,HC.o,HB.o,HX.o⟩
  case rest=>
  obtain⟨w3,rfl,g3,hC3,hT3,hX3⟩:=hcut;obtain⟨F,hF⟩:∃F,(if y.2=0 then Ep E.l go ⟨p,q,t,V⟩ N 0 z else y)=F:=⟨_,rfl⟩;have HFF:=Hd hF;have hrel:Ani E go ⟨p,q,t,V⟩ N F w.heap.size w g s (Aa Ab y.2) (Aa Ab 0) w3:=
   ⟨0,z,y.2,g3,rfl,rfl,Nat.zero_le _,hC3,hT3,hX3,fun h=>⟨hzl,hzs,by rw [if_pos h] at hF;exact hF⟩,fun h=>by
    have hz:=HZ.o;rw [if_neg h] at hF hz;rw [←hF,←hz]⟩
  have HREL:=Hd hrel;have hlf:Fx E.l go ⟨p,q,t,V⟩ s=F:=by
   have hz:=HZ.o;unfold Fx;rw [if_neg (by rw [HEE.o];decide),HY.o];by_cases h:y.2=0
   ·rw [if_pos h] at hF hz;rw [if_neg (by rw [h];decide),hz,←hF];simp only [HN.o]
   ·rw [if_neg h] at hF;rw [if_pos h,hF]
  have HLF:=Hd hlf;have HTN:=Hd (show(N:Int)*(V:Int)≤4294967296∧(0:Int)≤(N:Int)*(V:Int)∧0≤a∧a≤4294967296∧N≤4294967296 from by
   have h1:=HLE.o;have h2:=HNV.o;have h3:=HAA.o;have h5:((N*V:Nat):Int)=(N:Int)*(V:Int):=Int.natCast_mul _ _;have h6:N≤N*V:=Nat.le_mul_of_pos_right _ (by omega);refine⟨by omega,by omega,by omega,by omega,by omega⟩)
  clear hF hrel hC3 hT3 hX3 hlf;clear c0 c1 c2 c3 x0 x1 x2 x3;clear HC HX HB;go_upto_region 9 with fail
  go_wp2_with fail;go_loopw [8,10] (fun u8 u10 wr=>Ani E go ⟨p,q,t,V⟩ N F w.heap.size w g s u8 u10 wr) (fun _ u10 _=>N-(intOf u10).toNat)
  case atStart=>exact HREL.o
  case round=>
   clear HREL;obtain⟨i,s1,e1,g1,rfl,rfl,hi,hC1,hT1,hX1,hz0,hne⟩:=hrel;have HC:=Hd hC1;have HB:=Hd hT1;have HX:=Hd hX1;have HNE:=Hd hne;have HZ0:=Hd hz0;clear hC1 hT1 hX1 hne hz0;obtain⟨hP1,hP0,ha0,ha1,hN1⟩:=HTN.o;by_cases he1:e1=0
   ·subst he1;obtain⟨hl1,hs1,hF1⟩:=HZ0.o rfl;by_cases hlt:i<N
    ·have HF1:=Hd hF1;clear hF1 HNE HZ0;obtain⟨st,hst⟩:∃st,Fh E.l ⟨p,q,t,V⟩ i s1=st:=⟨_,rfl⟩;have hstg:=Tq (l:=E.l) ⟨p,q,t,V⟩ i s1;rw [hst] at hstg;have hstl:st.left≤s.left:=Int.le_trans hstg.1 hl1;have hsts:st.size≤s.size+2:=by have:=hstg.2;omega
     have hs1o:s1.o.length≤899999999:=by have:=Gp s1;omega
     have HST:=Hd hst;clear hst hstg;obtain⟨c0,c1,c2,c3⟩:=HC.o.cells;have x0:=Al HX.o.1;have x1:=Ak HX.o.1;have x2:=Aj HX.o.1;have x3:=Am HX.o.1;by_cases htg:Ce t=true
     ·have hdt:decide (a+(N:Int)*(V:Int)<o)=true:=by
       apply decide_eq_true;have h1:=HTO.o;have h2:=HO.o;have h3:=HAA.o;have h4:tgs t=1:=if_pos htg;rw [h4,Nat.mul_add,Nat.mul_one] at h1;have h5:((N*V:Nat):Int)=(N:Int)*(V:Int):=Int.natCast_mul _ _;omega
      have e:s1.tell (a+(N:Int)*(V:Int)+(i:Int)) (a+(N:Int)*(V:Int)+(i:Int)+1) 8=st:=by
       rw [←HST.o];unfold Fh;rw [if_pos htg];simp only [HAA.o,HN.o]
      have HE:=Hd e;clear e htg;go_wp2_with (go_at_call 60;(with_reducible refine(Gb (a+(N:Int)*(V:Int)+(i:Int)) (a+(N:Int)*(V:Int)+(i:Int)+1) 8 HC.o (by omega)).mono ?_);rintro e w4 ⟨rfl,g4,hC4,hT4⟩;rw [HE.o] at hC4;replace HB:=Hd (HB.o.trans hT4);replace HX:=Hd (HX.o.to hT4);replace HC:=Hd hC4;clear c0 c1 c2 c3 x0 x1 x2 x3;clear hC4 hT4;obtain⟨c0,c1,c2,c3⟩:=HC.o.cells;have x0:=Al HX.o.1;have x1:=Ak HX.o.1;have x2:=Aj HX.o.1;have x3:=Am HX.o.1);go_upto_region 16 with fail
      obtain⟨a0,ha0'⟩:∃x,Ij E.l p q t V i=x:=⟨_,rfl⟩;obtain⟨b0,hb0'⟩:∃x,Ik E.l p q t V i=x:=⟨_,rfl⟩;obtain⟨d0,hd0'⟩:∃x,Ih E.l p q t V i=x:=⟨_,rfl⟩;obtain⟨g0,hg0'⟩:∃x,Il E.l p q t V i=x:=⟨_,rfl⟩;obtain⟨ee,hee'⟩:∃x,Es E.l p q t V i=x:=⟨_,rfl⟩;have HA0:=Hd ha0';have HA1:=Hd hb0';have HA2:=Hd hd0';have HA3:=Hd hg0';have HA4:=Hd hee';clear ha0' hb0' hd0' hg0' hee';have hFree:=HC.o.new;have HFR:=Hd hFree;clear hFree;clear c0 c1 c2 c3 x0 x1 x2 x3;go_cut [8] from 64 to 108 (fun u8 wx=>∃wy,wy=wx∧u8= Aa Ab ee∧Ag wx w4.heap.size 75 #[Aa Ab a0,Aa Ab b0,Aa Ab d0,Aa Ab g0]∧Below w4.heap.size w4 wx)
      case first=>
       have HK:=Hd (Ag.new w4 75 #[Aa Ab 0,Aa Ab 0,Aa Ab 0,Aa Ab 0]);have HQ:=Hd ((Below.refl w4.heap.size w4).alloc (Asp _) (.cells #[Aa Ab 0,Aa Ab 0,Aa Ab 0,Aa Ab 0] 75));have HW:=Hd (HC.o.W.alloc (.cells #[Aa Ab 0,Aa Ab 0,Aa Ab 0,Aa Ab 0] 75));have HR:=Hd (HX.o.1.alloc (.cells #[Aa Ab 0,Aa Ab 0,Aa Ab 0,Aa Ab 0] 75));have HL:=Hd (HC.o.b.alloc (.cells #[Aa Ab 0,Aa Ab 0,Aa Ab 0,Aa Ab 0] 75));have hn1:E.bw≠w4.heap.size:=by have:=HC.o.W.lt;omega
       have hn2:w.heap.size≠w4.heap.size:=by have:=HX.o.1.lt;omega
       clear HC HB HX HF1 HST;generalize w4.alloc (.cells #[Aa Ab 0,Aa Ab 0,Aa Ab 0,Aa Ab 0] 75)=wa at HK HQ HW HR HL⊢;have c0:_=some (Value.slice E.A E.n E.c):=HW.o.cell 0;have x0:=Al HR.o;have x1:=Ak HR.o;have x2:=Aj HR.o;have x3:=Am HR.o;have q0:=Al HK.o;have q1:=Ak HK.o;have q2:=Aj HK.o;have q3:=Am HK.o;have p0:=HK.o.frozen 0;have p1:=HK.o.frozen 1;have p2:=HK.o.frozen 2;have p3:=HK.o.frozen 3;go_region_held3 (fun w'=>w'.cell? ⟨E.bw,0,none⟩=some (.slice E.A E.n E.c)∧(w'.cell? ⟨w.heap.size,0,none⟩=some (Aa Ab p)∧w'.cell? ⟨w.heap.size,1,none⟩=some (Aa Ab q)∧w'.cell? ⟨w.heap.size,2,none⟩=some (Aa Ab t)∧w'.cell? ⟨w.heap.size,3,none⟩=some (Aa Ab V))) ((with_reducible refine⟨?_,?_,?_,?_,?_⟩) <;>(repeat (first|with_reducible assumption|with_reducible refine Bq ?_|with_reducible refine Fz _ ?_|with_reducible refine Oz ?_ ?_)))
        (first|(go_at_call 176;(with_reducible refine(Ut E.A E.n E.c p q t V i a0 b0 d0 g0 ee E.l _ (HL.o.pure (Below.refl _ _).drew) hcc (by omega) HA0.o HA1.o HA2.o HA3.o HA4.o).mono ?_);rintro e w5 ⟨rfl,hb⟩;replace HQ:=Hd (Ad HQ.o.drew hb);replace HW:=Hd (HW.o.drew.pure hb);replace HR:=Hd (HR.o.drew.pure hb);replace HK:=Hd (HK.o.drew.pure hb);clear hb c0 x0 x1 x2 x3 q0 q1 q2 q3 p0 p1 p2 p3;have c0:_=some (Value.slice E.A E.n E.c):=HW.o.cell 0;have x0:=Al HR.o;have x1:=Ak HR.o;have x2:=Aj HR.o;have x3:=Am HR.o;have q0:=Al HK.o;have q1:=Ak HK.o;have q2:=Aj HK.o;have q3:=Am HK.o;have p0:=HK.o.frozen 0;have p1:=HK.o.frozen 1;have p2:=HK.o.frozen 2;have p3:=HK.o.frozen 3))
       go_wp2_with fail;go_meet;exact⟨_,rfl,rfl,(((HK.o.set_ 0 _).set_ 1 _).set_ 2 _).set_ 3 _,Cn _ HQ.o (Asp _) _ _ _ _⟩
      case rest=>
      obtain⟨w6,rfl,rfl,hK6,hb6⟩:=hcut;have HK:=Hd (show Hn E g4 w6 w4.heap.size 75 #[Aa Ab a0,Aa Ab b0,Aa Ab d0,Aa Ab g0] from⟨hK6,HFR.o⟩);replace HC:=Hd (HC.o.pure hb6);replace HX:=Hd (HX.o.pure hb6);replace HB:=Hd (HB.o.below hb6);clear hK6 hb6;by_cases hee:ee=0
      ·subst hee;have hok:=Afd HEE.o (by rw [HN.o];exact hlt) HA4.o;have hat:Bw E.l ⟨p,q,t,V⟩ i=⟨a0,b0,d0,g0⟩:=by unfold Bw;simp only [HA0.o,HA1.o,HA2.o,HA3.o]
       rw [hat] at hok;obtain⟨y2,hy2⟩:∃y,go ⟨a0,b0,d0,g0⟩ st=y:=⟨_,rfl⟩;have hstep:=Z4 (l:=E.l) (r:=⟨p,q,t,V⟩) HA4.o HST.o hat hy2 hlt HF1.o;have hcm:=HGO.o _ st a0 b0 d0 g0 w6 HC.o (by omega) (by omega) hok;have hgr:=HGS.o ⟨a0,b0,d0,g0⟩ st;rw [hy2] at hcm hgr;have HCM:=Hd hcm;have HGR:=Hd hgr;have HSTEP:=Hd hstep;have k0:=Al HK.o.1;have k1:=Ak HK.o.1;have k2:=Aj HK.o.1;have k3:=Am HK.o.1;clear hok hat hy2 hstep hcm hgr HF1;go_wp2_with fail;go_at_call 61;refine HCM.o.mono ?_;rintro e w7 ⟨rfl,g7,hC7,hT7⟩;replace HB:=Hd (HB.o.trans hT7);replace HX:=Hd (HX.o.to hT7);replace HC:=Hd hC7;clear HK hC7 hT7 HCM k0 k1 k2 k3;go_wp2_with fail;go_roundw
       case rel=>exact⟨i+1,y2.1,y2.2,g7,rfl,by go_num,by omega,HC.o,HB.o,HX.o,fun h=>⟨Int.le_trans HGR.o.1.1 hstl,by have:=HGR.o.2 h;omega,HSTEP.o.1 h⟩,HSTEP.o.2⟩
       case measure=>simp [intOf];omega
      ·have hb1:(ee==0)=false:=beq_eq_false_iff_ne.mpr hee;have HEN:=Hd (Z3 (l:=E.l) (r:=⟨p,q,t,V⟩) HA4.o hee HST.o hlt HF1.o);have HE0:=Hd hee;clear hee HF1;go_wp2_with fail;go_roundw
       case rel=>exact⟨i+1,st,ee,_,rfl,by go_num,by omega,HC.o,HB.o,HX.o,fun h=>absurd h HE0.o,fun _=>HEN.o⟩
       case measure=>simp [intOf];omega
     ·have hdt:decide (a+(N:Int)*(V:Int)<o)=false:=by
       apply decide_eq_false;have h1:=HTO.o;have h2:=HO.o;have h3:=HAA.o;have h4:tgs t=0:=if_neg htg;rw [h4,Nat.add_zero] at h1;have h5:((N*V:Nat):Int)=(N:Int)*(V:Int):=Int.natCast_mul _ _;omega
      have e:st=s1:=by
       rw [←HST.o];unfold Fh;rw [if_neg htg]
      subst e;clear htg;go_upto_region 16 with fail
      obtain⟨a0,ha0'⟩:∃x,Ij E.l p q t V i=x:=⟨_,rfl⟩;obtain⟨b0,hb0'⟩:∃x,Ik E.l p q t V i=x:=⟨_,rfl⟩;obtain⟨d0,hd0'⟩:∃x,Ih E.l p q t V i=x:=⟨_,rfl⟩;obtain⟨g0,hg0'⟩:∃x,Il E.l p q t V i=x:=⟨_,rfl⟩;obtain⟨ee,hee'⟩:∃x,Es E.l p q t V i=x:=⟨_,rfl⟩;have HA0:=Hd ha0';have HA1:=Hd hb0';have HA2:=Hd hd0';have HA3:=Hd hg0';have HA4:=Hd hee';clear ha0' hb0' hd0' hg0' hee';have hFree:=HC.o.new;have HFR:=Hd hFree;clear hFree;clear c0 c1 c2 c3 x0 x1 x2 x3;go_cut [8] from 64 to 108 (fun u8 wx=>∃wy,wy=wx∧u8= Aa Ab ee∧Ag wx wr.heap.size 75 #[Aa Ab a0,Aa Ab b0,Aa Ab d0,Aa Ab g0]∧Below wr.heap.size wr wx)
      case first=>
       have HK:=Hd (Ag.new wr 75 #[Aa Ab 0,Aa Ab 0,Aa Ab 0,Aa Ab 0]);have HQ:=Hd ((Below.refl wr.heap.size wr).alloc (Asp _) (.cells #[Aa Ab 0,Aa Ab 0,Aa Ab 0,Aa Ab 0] 75));have HW:=Hd (HC.o.W.alloc (.cells #[Aa Ab 0,Aa Ab 0,Aa Ab 0,Aa Ab 0] 75));have HR:=Hd (HX.o.1.alloc (.cells #[Aa Ab 0,Aa Ab 0,Aa Ab 0,Aa Ab 0] 75));have HL:=Hd (HC.o.b.alloc (.cells #[Aa Ab 0,Aa Ab 0,Aa Ab 0,Aa Ab 0] 75));have hn1:E.bw≠wr.heap.size:=by have:=HC.o.W.lt;omega
       have hn2:w.heap.size≠wr.heap.size:=by have:=HX.o.1.lt;omega
       clear HC HB HX HF1 HST;generalize wr.alloc (.cells #[Aa Ab 0,Aa Ab 0,Aa Ab 0,Aa Ab 0] 75)=wa at HK HQ HW HR HL⊢;have c0:_=some (Value.slice E.A E.n E.c):=HW.o.cell 0;have x0:=Al HR.o;have x1:=Ak HR.o;have x2:=Aj HR.o;have x3:=Am HR.o;have q0:=Al HK.o;have q1:=Ak HK.o;have q2:=Aj HK.o;have q3:=Am HK.o;have p0:=HK.o.frozen 0;have p1:=HK.o.frozen 1;have p2:=HK.o.frozen 2;have p3:=HK.o.frozen 3;go_region_held3 (fun w'=>w'.cell? ⟨E.bw,0,none⟩=some (.slice E.A E.n E.c)∧(w'.cell? ⟨w.heap.size,0,none⟩=some (Aa Ab p)∧w'.cell? ⟨w.heap.size,1,none⟩=some (Aa Ab q)∧w'.cell? ⟨w.heap.size,2,none⟩=some (Aa Ab t)∧w'.cell? ⟨w.heap.size,3,none⟩=some (Aa Ab V))) ((with_reducible refine⟨?_,?_,?_,?_,?_⟩) <;>(repeat (first|with_reducible assumption|with_reducible refine Bq ?_|with_reducible refine Fz _ ?_|with_reducible refine Oz ?_ ?_)))
        (first|(go_at_call 176;(with_reducible refine(Ut E.A E.n E.c p q t V i a0 b0 d0 g0 ee E.l _ (HL.o.pure (Below.refl _ _).drew) hcc (by omega) HA0.o HA1.o HA2.o HA3.o HA4.o).mono ?_);rintro e w5 ⟨rfl,hb⟩;replace HQ:=Hd (Ad HQ.o.drew hb);replace HW:=Hd (HW.o.drew.pure hb);replace HR:=Hd (HR.o.drew.pure hb);replace HK:=Hd (HK.o.drew.pure hb);clear hb c0 x0 x1 x2 x3 q0 q1 q2 q3 p0 p1 p2 p3;have c0:_=some (Value.slice E.A E.n E.c):=HW.o.cell 0;have x0:=Al HR.o;have x1:=Ak HR.o;have x2:=Aj HR.o;have x3:=Am HR.o;have q0:=Al HK.o;have q1:=Ak HK.o;have q2:=Aj HK.o;have q3:=Am HK.o;have p0:=HK.o.frozen 0;have p1:=HK.o.frozen 1;have p2:=HK.o.frozen 2;have p3:=HK.o.frozen 3))
       go_wp2_with fail;go_meet;exact⟨_,rfl,rfl,(((HK.o.set_ 0 _).set_ 1 _).set_ 2 _).set_ 3 _,Cn _ HQ.o (Asp _) _ _ _ _⟩
      case rest=>
      obtain⟨w6,rfl,rfl,hK6,hb6⟩:=hcut;have HK:=Hd (show Hn E g1 w6 wr.heap.size 75 #[Aa Ab a0,Aa Ab b0,Aa Ab d0,Aa Ab g0] from⟨hK6,HFR.o⟩);replace HC:=Hd (HC.o.pure hb6);replace HX:=Hd (HX.o.pure hb6);replace HB:=Hd (HB.o.below hb6);clear hK6 hb6;by_cases hee:ee=0
      ·subst hee;have hok:=Afd HEE.o (by rw [HN.o];exact hlt) HA4.o;have hat:Bw E.l ⟨p,q,t,V⟩ i=⟨a0,b0,d0,g0⟩:=by unfold Bw;simp only [HA0.o,HA1.o,HA2.o,HA3.o]
       rw [hat] at hok;obtain⟨y2,hy2⟩:∃y,go ⟨a0,b0,d0,g0⟩ st=y:=⟨_,rfl⟩;have hstep:=Z4 (l:=E.l) (r:=⟨p,q,t,V⟩) HA4.o HST.o hat hy2 hlt HF1.o;have hcm:=HGO.o _ st a0 b0 d0 g0 w6 HC.o (by omega) (by omega) hok;have hgr:=HGS.o ⟨a0,b0,d0,g0⟩ st;rw [hy2] at hcm hgr;have HCM:=Hd hcm;have HGR:=Hd hgr;have HSTEP:=Hd hstep;have k0:=Al HK.o.1;have k1:=Ak HK.o.1;have k2:=Aj HK.o.1;have k3:=Am HK.o.1;clear hok hat hy2 hstep hcm hgr HF1;go_wp2_with fail;go_at_call 61;refine HCM.o.mono ?_;rintro e w7 ⟨rfl,g7,hC7,hT7⟩;replace HB:=Hd (HB.o.trans hT7);replace HX:=Hd (HX.o.to hT7);replace HC:=Hd hC7;clear HK hC7 hT7 HCM k0 k1 k2 k3;go_wp2_with fail;go_roundw
       case rel=>exact⟨i+1,y2.1,y2.2,g7,rfl,by go_num,by omega,HC.o,HB.o,HX.o,fun h=>⟨Int.le_trans HGR.o.1.1 hstl,by have:=HGR.o.2 h;omega,HSTEP.o.1 h⟩,HSTEP.o.2⟩
       case measure=>simp [intOf];omega
      ·have hb1:(ee==0)=false:=beq_eq_false_iff_ne.mpr hee;have HEN:=Hd (Z3 (l:=E.l) (r:=⟨p,q,t,V⟩) HA4.o hee HST.o hlt HF1.o);have HE0:=Hd hee;clear hee HF1;go_wp2_with fail;go_roundw
       case rel=>exact⟨i+1,st,ee,_,rfl,by go_num,by omega,HC.o,HB.o,HX.o,fun h=>absurd h HE0.o,fun _=>HEN.o⟩
       case measure=>simp [intOf];omega
    ·have hie:N-i=0:=by omega
     rw [hie] at hF1;have HF1:=Hd (show F=(s1,0) from hF1.symm);clear hF1 hie;go_wp2_with fail;go_ret;rw [HLF.o,HF1.o];exact⟨rfl,_,HC.o,HB.o⟩
   ·have hb1:(e1==0)=false:=beq_eq_false_iff_ne.mpr he1;have HF1:=Hd (HNE.o he1);clear he1 HNE HZ0;go_wp2_with fail
    all_goals
     go_ret;rw [HLF.o,HF1.o];exact⟨rfl,_,HC.o,HB.o⟩
 ·have hne:(er != 0)=true:=by simpa using he
  have e:Fx E.l go ⟨p,q,t,v⟩ s=(s,er):=by
   unfold Fx;rw [HEE.o,if_pos he]
  have HR:=Hd e;clear e he;go_wp2_with fail;go_ret;rw [HR.o];exact⟨rfl,_,HC.o,HB.o⟩
theorem An7{E:Hm}{g:Option Nat}{s:Ay}{w:World}(h:Er E g s w){x:Int}(hx:s.left-1=x):Er E g s.burn (w.setCell ⟨E.bw,1,none⟩ (Aa Ab x))∧Dq E g g w (w.setCell ⟨E.bw,1,none⟩ (Aa Ab x)):=by
 subst hx;have hf:Fr (fun k=>k=E.bw) w (w.setCell ⟨E.bw,1,none⟩ (Aa Ab (s.left-1))):=Fr.setCell (S:=fun k=>k=E.bw) (Fr.refl _ _) (fun _=>rfl) _;have ok:=h.ok;refine⟨⟨ok,h.b.fr hf ?_,h.W.set_ 1 _,h.M.fr hf ok.mw,h.O.fr hf ok.lw ?_,Nat.le_trans h.sz hf.size⟩,hf.mono ?_,fun _ _ h=>h⟩
 ·intro ad had e;have:=ok.hA ad had;have:=ok.w0;omega
 ·intro k hk e;have:=(h.O.row k hk).1;have:=ok.w2;omega
 ·rintro k _ rfl hF;exact hF.2.2.1 rfl
theorem Aqw{E:Hm}{g:Option Nat}{s:Ay}{w w':World}(h:Er E g s w)(x:P3)(hM:Ii w' E.bm (s.had++ [x]))(hf:Fr (fun k=>k=E.bm) w w'):Er E g (s.see x) w'∧Dq E g g w w':=by
 have ok:=h.ok;refine⟨⟨ok,h.b.fr hf ?_,h.W.fr hf (Ne.symm ok.mw),hM,h.O.fr hf ok.lm ?_,Nat.le_trans h.sz hf.size⟩,hf.mono ?_,fun _ _ h=>h⟩
 ·intro ad had e;have:=ok.hA ad had;have:=ok.m0;omega
 ·intro k hk e;have:=(h.O.row k hk).1;have:=ok.m2;omega
 ·rintro k _ rfl hF;exact hF.2.1 rfl
theorem Ym(A:Option Addr)(n c:Nat)(p q t v a er:Int)(l:List UInt8)(w:World)(hl:Cd w A n l)(hc:n≤c)(hn:n≤1099511627776)(h1:Bb l p q t v=a)(h2:Bh l p q t v=er):
  Calls Tryz.prog 91 #[.slice A n c,.agg #[Aa Ab p,Aa Ab q,Aa Ab t,Aa Ab v]] w fun e w'=>e= .returned (.tuple #[Aa Ab a,Aa Ab er])∧Below w.heap.size w w':=by
 subst h1 h2;exact Fp A n c p q t v l w hl hc (by omega)
theorem Mz(t:Int)(b:Bool)(w:World)(h:Aw t=b):Calls Tryz.prog 90 #[Aa Ab t] w fun e w'=>e= .returned (.bool b)∧Below w.heap.size w w':=by
 subst h;exact B8 t w
theorem Ud(E:Hm):∀d,V1 E (Bz E.l d) d
 |0=>fun g s p q t v w h hd hs hr=>absurd hd (Nat.not_lt_zero _)
 |d+1=>fun g s p q t v w h hd hs hr=>by
  have ih:=Ud E d;have HIH:=Hd ih;have HC:=Hd (h.alloc (.cells #[Aa Ab p,Aa Ab q,Aa Ab t,Aa Ab v] 75));have HX:=Hd (h.lone 75 #[Aa Ab p,Aa Ab q,Aa Ab t,Aa Ab v]);have HB:=Hd ((Dq.refl E g w).alloc (.cells #[Aa Ab p,Aa Ab q,Aa Ab t,Aa Ab v] 75));have hcc:=h.ok.hc;have hnn:=h.ok.hn;have hlen:=h.len;obtain⟨hp0,hq1,hq8,hpq⟩:=hr;simp only at hp0 hq1 hq8 hpq;clear ih h;have hleft:8*s.left.toNat≤900000000:=by unfold Ay.size at hs;omega
  obtain⟨c0,c1,c2,c3⟩:=HC.o.cells;have x0:=Al HX.o.1;have x1:=Ak HX.o.1;have x2:=Aj HX.o.1;have x3:=Am HX.o.1;by_cases hl:s.left<1
  ·have hR:Bz E.l (d+1) ⟨p,q,t,v⟩ s=(s,260):=by unfold Bz;rw [if_pos hl]
   have HR:=Hd hR;clear hR;go_enter Tryz.func61,Tryz.ntmps61;go_wp2_with fail;go_ret;rw [HR.o];exact⟨rfl,_,HC.o,HB.o⟩
  ·have hwr:IntKind.i64.wrap (s.left-1)=s.left-1:=IntWalk.i64_in _ (by omega);have hwq:IntKind.i64.wrap (p+q)=p+q:=IntWalk.i64_in _ (by omega);have hsb:s.burn.size+8=s.size:=by unfold Ay.size Ay.burn;simp only;omega
   have hst:=Q7 s.burn p (p+q) (Iw t);have hstl:=Jj s.burn p (p+q) (Iw t);have HL:=Hd (show 1≤s.left by omega);have f1:=HC.o.W.frozen 1;have hbc:=An7 HC.o (x:=s.left-1) rfl;have HBC:=Hd hbc;clear hbc;go_enter Tryz.func61,Tryz.ntmps61;go_upto_region 4 with fail
   replace HC:=Hd HBC.o.1;replace HX:=Hd (HX.o.to HBC.o.2);replace HB:=Hd (HB.o.trans HBC.o.2);clear HBC f1;generalize (w.alloc (.cells #[Aa Ab p,Aa Ab q,Aa Ab t,Aa Ab v] 75)).setCell ⟨E.bw,1,none⟩ (Aa Ab (s.left-1))=w1 at HC HX HB⊢;clear c0 c1 c2 c3 x0 x1 x2 x3;obtain⟨c0,c1,c2,c3⟩:=HC.o.cells;have x0:=Al HX.o.1;have x1:=Ak HX.o.1;have x2:=Aj HX.o.1;have x3:=Am HX.o.1;go_region_held3 (fun w'=>w'.cell? ⟨E.bw,0,none⟩=some (.slice E.A E.n E.c)∧w'.cell? ⟨E.bw,3,none⟩=some (.func (.func 60) #[] #[.pointer (some ⟨E.bl,0,none⟩)])∧(w'.cell? ⟨w.heap.size,0,none⟩=some (Aa Ab p)∧w'.cell? ⟨w.heap.size,1,none⟩=some (Aa Ab q)∧w'.cell? ⟨w.heap.size,2,none⟩=some (Aa Ab t)∧w'.cell? ⟨w.heap.size,3,none⟩=some (Aa Ab v))) (first|with_reducible exact⟨c0,c3,x0,x1,x2,x3⟩|with_reducible exact⟨Ah c0,Ah c3,Ah x0,Ah x1,Ah x2,Ah x3⟩) (first|(go_at_call 104;(with_reducible refine(Amj t _).mono ?_);rintro e w2 ⟨rfl,hb⟩;replace HB:=Hd (HB.o.drew.below hb);replace HC:=Hd (HC.o.drew.pure hb);replace HX:=Hd (HX.o.drew.pure hb);clear c0 c1 c2 c3 x0 x1 x2 x3;clear hb;obtain⟨c0,c1,c2,c3⟩:=HC.o.cells;have x0:=Al HX.o.1;have x1:=Ak HX.o.1;have x2:=Aj HX.o.1;have x3:=Am HX.o.1)|(go_at_call 60;(with_reducible refine(Gb p (p+q) (Iw t) HC.o (by have:=Gp s.burn;omega)).mono ?_);rintro e w3 ⟨rfl,g3,hC3,hT3⟩;replace HB:=Hd (HB.o.trans hT3);replace HX:=Hd (HX.o.to hT3);replace HC:=Hd hC3;clear c0 c1 c2 c3 x0 x1 x2 x3;clear hC3 hT3;obtain⟨c0,c1,c2,c3⟩:=HC.o.cells;have x0:=Al HX.o.1;have x1:=Ak HX.o.1;have x2:=Aj HX.o.1;have x3:=Am HX.o.1));obtain⟨s1,hs1⟩:∃s1,s.burn.tell p (p+q) (Iw t)=s1:=⟨_,rfl⟩;rw [hs1] at hst hstl;have hss:Cz ⟨p,q,t,v⟩ s=s1:=hs1;have hsl1:s1.left.toNat<d:=by rw [hstl];unfold Ay.burn;simp only;omega
   have hss1:s1.size≤899999993:=by omega
   replace HC:=Hd (hs1▸HC.o);have HSS:=Hd hss;clear hs1 hst hstl hss hl hsb hwr hs hd hleft;go_wp2_with fail;go_at_call 90;by_cases hi:Aw t=true
   ·refine(Mz t true _ hi).mono ?_;rintro e w4 ⟨rfl,hb⟩;replace HB:=Hd (HB.o.below hb);replace HC:=Hd (HC.o.pure hb);replace HX:=Hd (HX.o.pure hb);clear c0 c1 c2 c3 x0 x1 x2 x3;clear hb;obtain⟨c0,c1,c2,c3⟩:=HC.o.cells;have x0:=Al HX.o.1;have x1:=Ak HX.o.1;have x2:=Aj HX.o.1;have x3:=Am HX.o.1;have hR:Bz E.l (d+1) ⟨p,q,t,v⟩ s=(s1,0):=by unfold Bz;rw [if_neg (Int.not_lt.mpr HL.o),if_pos hi,HSS.o]
    have HR:=Hd hR;clear hR hi;go_wp2_with fail;go_ret;rw [HR.o];exact⟨rfl,_,HC.o,HB.o⟩
   ·have hi':Aw t=false:=by simpa using hi
    refine(Mz t false _ hi').mono ?_;rintro e w4 ⟨rfl,hb⟩;replace HB:=Hd (HB.o.below hb);replace HC:=Hd (HC.o.pure hb);replace HX:=Hd (HX.o.pure hb);clear c0 c1 c2 c3 x0 x1 x2 x3;clear hb;obtain⟨c0,c1,c2,c3⟩:=HC.o.cells;have x0:=Al HX.o.1;have x1:=Ak HX.o.1;have x2:=Aj HX.o.1;have x3:=Am HX.o.1;have HI:=Hd hi;clear hi hi';obtain⟨a,ha⟩:∃a,Bb E.l p q t v=a:=⟨_,rfl⟩;obtain⟨er,her⟩:∃a,Bh E.l p q t v=a:=⟨_,rfl⟩;have HA:=Hd ha;have HER:=Hd her;clear ha her;go_wp2_with fail;go_region_held3 (fun w'=>w'.cell? ⟨E.bw,0,none⟩=some (.slice E.A E.n E.c)∧w'.cell? ⟨E.bw,3,none⟩=some (.func (.func 60) #[] #[.pointer (some ⟨E.bl,0,none⟩)])∧(w'.cell? ⟨w.heap.size,0,none⟩=some (Aa Ab p)∧w'.cell? ⟨w.heap.size,1,none⟩=some (Aa Ab q)∧w'.cell? ⟨w.heap.size,2,none⟩=some (Aa Ab t)∧w'.cell? ⟨w.heap.size,3,none⟩=some (Aa Ab v))) (first|with_reducible exact⟨c0,c3,x0,x1,x2,x3⟩|with_reducible exact⟨Ah c0,Ah c3,Ah x0,Ah x1,Ah x2,Ah x3⟩) (first|(go_at_call 91;(with_reducible refine(Ym E.A E.n E.c p q t v a er E.l _ HC.o.drew.b hcc (by omega) HA.o HER.o).mono ?_);rintro e w5 ⟨rfl,hb⟩;replace HB:=Hd (HB.o.drew.below hb);replace HC:=Hd (HC.o.drew.pure hb);replace HX:=Hd (HX.o.drew.pure hb);clear c0 c1 c2 c3 x0 x1 x2 x3;clear hb;obtain⟨c0,c1,c2,c3⟩:=HC.o.cells;have x0:=Al HX.o.1;have x1:=Ak HX.o.1;have x2:=Aj HX.o.1;have x3:=Am HX.o.1));go_upto_region 9 with fail
    have HY:=Hd (Ag.new w5 148 #[Aa Ab a,Aa Ab t,Aa Ab v]);replace HC:=Hd (HC.o.alloc (.cells #[Aa Ab a,Aa Ab t,Aa Ab v] 148));replace HX:=Hd (HX.o.pure ((Below.refl _ _).alloc (Asp _) (.cells #[Aa Ab a,Aa Ab t,Aa Ab v] 148)));replace HB:=Hd (HB.o.alloc (.cells #[Aa Ab a,Aa Ab t,Aa Ab v] 148));have hsp:Ht E.l ⟨p,q,t,v⟩=(a,t,v):=by unfold Ht;simp only [HA.o]
    have hun:Bz E.l (d+1) ⟨p,q,t,v⟩ s=if er≠0∨(a,t,v)∈s1.had then(s1,er) else Eo E.l (Bz E.l d) ⟨p,q,t,v⟩ (s1.see (a,t,v)):=by
     unfold Bz;rw [if_neg (Int.not_lt.mpr HL.o),if_neg HI.o,HSS.o,hsp,HER.o];have:s1.had=s.had:=by rw [←HSS.o];exact Am9 _ _ _ _
     rw [this]
    have HUN:=Hd hun;clear hsp hun;clear c0 c1 c2 c3 x0 x1 x2 x3;generalize w5.alloc (.cells #[Aa Ab a,Aa Ab t,Aa Ab v] 148)=w6 at HC HX HB HY⊢;obtain⟨c0,c1,c2,c3⟩:=HC.o.cells;have x0:=Al HX.o.1;have x1:=Ak HX.o.1;have x2:=Aj HX.o.1;have x3:=Am HX.o.1;obtain ⟨y0,y1,y2⟩:=HY.o.c3;by_cases her:er=0
    ·subst her;by_cases hm:(a,t,v)∈s1.had
     ·have hlk:(Instr.lookup 95 (.map (some E.bm)) (.agg #[Aa Ab a,Aa Ab t,Aa Ab v]) false).run Tryz.prog w6.drew= .ok (.bool true) w6.drew:=by
       have:=M9 Tryz.underlying95 Tryz.underlying148 Wq Wp Na E.bm s1.had (a,t,v) w6.drew HC.o.drew.M;rw [decide_eq_true hm] at this;exact this
      have hr:=HUN.o;rw [if_pos (.inr hm)] at hr;have HR:=Hd hr;clear hr hm;go_region_held3 (fun w'=>w'.cell? ⟨E.bw,2,none⟩=some (.map (some E.bm))∧(w'.cell? ⟨w5.heap.size,0,none⟩=some (Aa Ab a)∧w'.cell? ⟨w5.heap.size,1,none⟩=some (Aa Ab t)∧w'.cell? ⟨w5.heap.size,2,none⟩=some (Aa Ab v))) (first|with_reducible exact⟨c2,y0,y1,y2⟩|with_reducible exact⟨Ah c2,Ah y0,Ah y1,Ah y2⟩) (fail);go_wp2_with fail;go_ret;rw [HR.o];exact⟨rfl,_,HC.o.drew,HB.o.drew⟩
     ·have hlk:(Instr.lookup 95 (.map (some E.bm)) (.agg #[Aa Ab a,Aa Ab t,Aa Ab v]) false).run Tryz.prog w6.drew= .ok (.bool false) w6.drew:=by
       have:=M9 Tryz.underlying95 Tryz.underlying148 Wq Wp Na E.bm s1.had (a,t,v) w6.drew HC.o.drew.M;rw [decide_eq_false hm] at this;exact this
      have hr:=HUN.o;rw [if_neg (by simp [hm])] at hr;have HR:=Hd hr;obtain⟨w7,hins,hM7,hf7,hsz7⟩:=Abr Tryz.underlying95 Tryz.underlying148 Wq Wp E.bm s1.had (a,t,v) w6.drew.drew HC.o.drew.drew.M hm;obtain⟨hC7,hT7⟩:=Aqw HC.o.drew.drew (a,t,v) hM7 hf7;have HC7:=Hd hC7;have HX7:=Hd (HX.o.drew.drew.to hT7);have HB7:=Hd (HB.o.drew.drew.trans hT7);replace hins:(Instr.mapUpdate 95 (.map (some E.bm)) (.agg #[.int .i64 a,.int .i64 t,.int .i64 v]) (.bool true)).run Tryz.prog w6.drew.drew= .ok () w7:=hins;have d2:=HC7.o.cells.2.2.1;have hyb:w5.heap.size≠E.bm:=by
       have:=HY.o;have h2:=HC.o.M;rintro e;obtain⟨es,k,hb,_⟩:=h2;rw [←e] at hb;unfold Ag at this;rw [this] at hb;cases hb
      have HY7:=Hd (HY.o.drew.drew.fr hf7 hyb);obtain ⟨z0,z1,z2⟩:=HY7.o.c3;clear hr hm hM7 hf7 hsz7 hC7 hT7 hyb HUN HSS HL HA HER HI;go_region_held3 (fun w'=>w'.cell? ⟨E.bw,2,none⟩=some (.map (some E.bm))∧(w'.cell? ⟨w5.heap.size,0,none⟩=some (Aa Ab a)∧w'.cell? ⟨w5.heap.size,1,none⟩=some (Aa Ab t)∧w'.cell? ⟨w5.heap.size,2,none⟩=some (Aa Ab v))) (first|with_reducible exact⟨c2,y0,y1,y2⟩|with_reducible exact⟨Ah c2,Ah y0,Ah y1,Ah y2⟩) (fail);go_wp2_with fail;go_region_held3 (fun w'=>w'.cell? ⟨E.bw,2,none⟩=some (.map (some E.bm))∧(w'.cell? ⟨w5.heap.size,0,none⟩=some (Aa Ab a)∧w'.cell? ⟨w5.heap.size,1,none⟩=some (Aa Ab t)∧w'.cell? ⟨w5.heap.size,2,none⟩=some (Aa Ab v))) (first|with_reducible exact⟨c2,y0,y1,y2⟩|with_reducible exact⟨Ah c2,Ah y0,Ah y1,Ah y2⟩|with_reducible exact⟨Ah (Ah c2),Ah (Ah y0),Ah (Ah y1),Ah (Ah y2)⟩|with_reducible exact⟨d2,z0,z1,z2⟩) (fail);obtain⟨s2,hs2⟩:∃s2,s1.see (a,t,v)=s2:=⟨_,rfl⟩;have hl2:s2.left.toNat<d:=by subst hs2;exact hsl1
      have hz2:s2.size≤899999993:=by subst hs2;exact hss1
      rw [hs2] at HC7 HR;clear hs2 hlk hins d2 z0 z1 z2 y0 y1 y2 HY HY7 hsl1 hss1;clear c0 c1 c2 c3 x0 x1 x2 x3;clear HC HX HB;have HC:=HC7;have HX:=HX7;have HB:=HB7;clear HC7 HX7 HB7;obtain⟨c0,c1,c2,c3⟩:=HC.o.cells;have x0:=Al HX.o.1;have x1:=Ak HX.o.1;have x2:=Aj HX.o.1;have x3:=Am HX.o.1;by_cases h4:t=4
      ·subst h4;obtain⟨y,hy⟩:∃y,D9 E.l ⟨p,q,4,v⟩ s2=y:=⟨_,rfl⟩;have hspec:=Nh E _ s2 p q 4 v _ HC.o (by have:=Gp s2;omega);rw [hy] at hspec;have hdat:=HR.o.trans (show Eo E.l (Bz E.l d) ⟨p,q,4,v⟩ s2=D9 E.l ⟨p,q,4,v⟩ s2 from rfl);rw [hy] at hdat;have HSP:=Hd hspec;have HDD:=Hd hdat;clear hy hspec hdat;go_wp2_with fail;go_at_call 105;refine HSP.o.mono ?_;rintro e w8 ⟨rfl,g8,hC8,hT8⟩;have HC8:=Hd hC8;have HT8:=Hd hT8;clear c0 c1 c2 c3 x0 x1 x2 x3;clear hC8 hT8 HSP;go_wp2_with fail;go_ret;rw [HDD.o];exact⟨rfl,_,HC8.o,HB.o.trans HT8.o⟩
      have e4:(t==4)=false:=beq_eq_false_iff_ne.mpr h4;by_cases h5:t=5
      ·subst h5;obtain⟨y,hy⟩:∃y,D9 E.l ⟨p,q,5,v⟩ s2=y:=⟨_,rfl⟩;have hspec:=Nh E _ s2 p q 5 v _ HC.o (by have:=Gp s2;omega);rw [hy] at hspec;have hdat:=HR.o.trans (show Eo E.l (Bz E.l d) ⟨p,q,5,v⟩ s2=D9 E.l ⟨p,q,5,v⟩ s2 from rfl);rw [hy] at hdat;have HSP:=Hd hspec;have HDD:=Hd hdat;clear hy hspec hdat;go_wp2_with fail;go_at_call 105;refine HSP.o.mono ?_;rintro e w8 ⟨rfl,g8,hC8,hT8⟩;have HC8:=Hd hC8;have HT8:=Hd hT8;clear c0 c1 c2 c3 x0 x1 x2 x3;clear hC8 hT8 HSP;go_wp2_with fail;go_ret;rw [HDD.o];exact⟨rfl,_,HC8.o,HB.o.trans HT8.o⟩
      have e5:(t==5)=false:=beq_eq_false_iff_ne.mpr h5;by_cases h25:t=25
      ·subst h25;obtain⟨y,hy⟩:∃y,D9 E.l ⟨p,q,25,v⟩ s2=y:=⟨_,rfl⟩;have hspec:=Nh E _ s2 p q 25 v _ HC.o (by have:=Gp s2;omega);rw [hy] at hspec;have hdat:=HR.o.trans (show Eo E.l (Bz E.l d) ⟨p,q,25,v⟩ s2=D9 E.l ⟨p,q,25,v⟩ s2 from rfl);rw [hy] at hdat;have HSP:=Hd hspec;have HDD:=Hd hdat;clear hy hspec hdat;go_wp2_with fail;go_at_call 105;refine HSP.o.mono ?_;rintro e w8 ⟨rfl,g8,hC8,hT8⟩;have HC8:=Hd hC8;have HT8:=Hd hT8;clear c0 c1 c2 c3 x0 x1 x2 x3;clear hC8 hT8 HSP;go_wp2_with fail;go_ret;rw [HDD.o];exact⟨rfl,_,HC8.o,HB.o.trans HT8.o⟩
      have e25:(t==25)=false:=beq_eq_false_iff_ne.mpr h25;by_cases h6:t=6
      ·subst h6;obtain⟨y,hy⟩:∃y,En E.l ⟨p,q,6,v⟩ s2=y:=⟨_,rfl⟩;have hspec:=P6 E _ s2 p q 6 v _ HC.o (by have:=Gp s2;omega);rw [hy] at hspec;have hdat:=HR.o.trans (show Eo E.l (Bz E.l d) ⟨p,q,6,v⟩ s2=En E.l ⟨p,q,6,v⟩ s2 from rfl);rw [hy] at hdat;have HSP:=Hd hspec;have HDD:=Hd hdat;clear hy hspec hdat;go_wp2_with fail;go_at_call 106;refine HSP.o.mono ?_;rintro e w8 ⟨rfl,g8,hC8,hT8⟩;have HC8:=Hd hC8;have HT8:=Hd hT8;clear c0 c1 c2 c3 x0 x1 x2 x3;clear hC8 hT8 HSP;go_wp2_with fail;go_ret;rw [HDD.o];exact⟨rfl,_,HC8.o,HB.o.trans HT8.o⟩
      have e6:(t==6)=false:=beq_eq_false_iff_ne.mpr h6;by_cases h7:t=7
      ·subst h7;obtain⟨y,hy⟩:∃y,En E.l ⟨p,q,7,v⟩ s2=y:=⟨_,rfl⟩;have hspec:=P6 E _ s2 p q 7 v _ HC.o (by have:=Gp s2;omega);rw [hy] at hspec;have hdat:=HR.o.trans (show Eo E.l (Bz E.l d) ⟨p,q,7,v⟩ s2=En E.l ⟨p,q,7,v⟩ s2 from rfl);rw [hy] at hdat;have HSP:=Hd hspec;have HDD:=Hd hdat;clear hy hspec hdat;go_wp2_with fail;go_at_call 106;refine HSP.o.mono ?_;rintro e w8 ⟨rfl,g8,hC8,hT8⟩;have HC8:=Hd hC8;have HT8:=Hd hT8;clear c0 c1 c2 c3 x0 x1 x2 x3;clear hC8 hT8 HSP;go_wp2_with fail;go_ret;rw [HDD.o];exact⟨rfl,_,HC8.o,HB.o.trans HT8.o⟩
      have e7:(t==7)=false:=beq_eq_false_iff_ne.mpr h7;have hdata:Eo E.l (Bz E.l d) ⟨p,q,t,v⟩ s2=Fx E.l (Bz E.l d) ⟨p,q,t,v⟩ s2:=by
       unfold Eo;rw [if_neg (by simp [Hi];omega),if_neg (by simp only;omega)]
      have HDT:=Hd hdata;clear hdata h4 h5 h25 h6 h7;obtain⟨y,hy⟩:∃y,Fx E.l (Bz E.l d) ⟨p,q,t,v⟩ s2=y:=⟨_,rfl⟩;have hspec:=Acq E _ d HIH.o (P1 E.l d) _ s2 p q t v _ HC.o hl2 (by omega);rw [hy] at hspec;have hdat:=HR.o.trans (show Eo E.l (Bz E.l d) ⟨p,q,t,v⟩ s2=Fx E.l (Bz E.l d) ⟨p,q,t,v⟩ s2 from HDT.o);rw [hy] at hdat;have HSP:=Hd hspec;have HDD:=Hd hdat;clear hy hspec hdat;go_wp2_with fail;go_at_call 107;refine HSP.o.mono ?_;rintro e w8 ⟨rfl,g8,hC8,hT8⟩;have HC8:=Hd hC8;have HT8:=Hd hT8;clear c0 c1 c2 c3 x0 x1 x2 x3;clear hC8 hT8 HSP;go_wp2_with fail;go_ret;rw [HDD.o];exact⟨rfl,_,HC8.o,HB.o.trans HT8.o⟩
    ·have hne:(er != 0)=true:=by simpa using her
     have hr:=HUN.o;rw [if_pos (.inl her)] at hr;have HR:=Hd hr;clear hr her;go_quiet (fail);go_wp2_with fail;go_ret;rw [HR.o];exact⟨rfl,_,HC.o.pure (below_drewN (Below.refl _ _) _),HB.o.below (below_drewN (Below.refl _ _) _)⟩
end Go.Proofs.YtgbjodnegkbfoaaGreat
