/- Parts of the proof. -/
import Derived.Test.YtejpbijeifjdeaaGreatQk22
set_option maxHeartbeats 4000000
set_option maxRecDepth 100000
open Go.Value renaming int→Aa
open Go.IntKind renaming i64→Ab
open Nat renaming le_refl→Ae
open Go.RowKit.Below renaming refl→Af
open Go.IntWalk renaming i64_in→Ag
open Int renaming toNat_natCast→Ao
open Go.Proofs.Tryz
open Go.Proofs.Tryz renaming prog→Ad
namespace Go.Proofs.YtejpbijeifjdeaaGreat
open Go.RowKit Go.Acc
variable {l:List UInt8}{p q t v:Int}{i N:Nat}{go:Rq→Bk→Bk×Int}{r:Rq}{s st:Bk}{F:Bk×Int}{E:Iy}{g:Option Nat}{w w':World}
def wP(E:Iy)(go:Rq→Bk→Bk×Int)(r:Rq)(N:Nat)(F:Bk×Int)(b:Nat)(w0:World)(g:Option Nat)(s0:Bk)(u8 u10:Value)(wr:World):Prop:=
 ∃(i:Nat) (s:Bk) (e:Int) (g':Option Nat),u8= Aa Ab e∧u10= Aa Ab i∧i≤N∧E6 E g' s wr∧Ed E g g' w0 wr∧Iz E g' wr b 70 (Adl r.p r.q r.t r.v)∧
  (e=0→s.left≤s0.left∧s.size≤s0.size+1∧E0 E.l go r (N-i) i s=F)∧(e≠0→F=(s,e))
theorem V6(h:Cm l p q t v=0)(hi:i<lsLen l p q t v)(ha:Eu l p q t v i=0):Lh l.length (Cq l ⟨p,q,t,v⟩ i):=by
 obtain⟨h1,h2,_,a⟩:=Kl h;have b:i*v.toNat+v.toNat≤lsLen l p q t v*v.toNat:=by
  rw [←Nat.succ_mul];exact Nat.mul_le_mul_right _ hi
 have c:lsLen l p q t v*v.toNat≤lsLen l p q t v*(v.toNat+tgs t):=Nat.mul_le_mul_left _ (Nat.le_add_right _ _);unfold Lh Cq Rm Rn;simp only [if_pos ha];generalize lsLen l p q t v*(v.toNat+tgs t)=X at*;generalize lsLen l p q t v*v.toNat=Y at*;rw [Ao];generalize i*v.toNat=Z at*;omega
theorem Ab9(h:Cm l p q t v=0):lsTo l p q t v=lsAt l p q t v+lsLen l p q t v*(v.toNat+tgs t):=by
 unfold lsTo lsAt lsLen;rw [if_pos h,if_pos h,if_pos h];rfl
theorem Qp{x:Rq}{y:Bk×Int}(h:Eu l r.p r.q r.t r.v i=0)(hst:Fk l r i s=st)(hat:Cq l r i=x)(hy:go x st=y)(hi:i<N)(hF:E0 l go r (N-i) i s=F):
  (y.2=0→E0 l go r (N-(i+1)) (i+1) y.1=F)∧(y.2≠0→F=(y.1,y.2)):=by
 obtain⟨k,b⟩:∃k,N-i=k+1:=⟨N-i-1,by omega⟩;have a:N-(i+1)=k:=by omega
 rw [b,E0,if_neg (by rw [h];decide),hst,hat,hy] at hF;rw [a];refine⟨fun h0=>?_,fun h0=>?_⟩
 ·rw [if_neg (by rw [h0];decide)] at hF;exact hF
 ·rw [if_pos h0] at hF;exact hF.symm
theorem Qo{ee:Int}(h:Eu l r.p r.q r.t r.v i=ee)(he:ee≠0)(hst:Fk l r i s=st)(hi:i<N)(hF:E0 l go r (N-i) i s=F):F=(st,ee):=by
 obtain⟨k,hk⟩:∃k,N-i=k+1:=⟨N-i-1,by omega⟩;rw [hk,E0,if_pos (by rw [h];exact he),hst,h] at hF;exact hF.symm
theorem gJ(E:Iy)(go:Rq→Bk→Bk×Int)(d:Nat)(hgo:Yb E go d)(hgoes:P9 go)(g:Option Nat)(s:Bk)(p q t v:Int)(w:World)(h:E6 E g s w)(hd:s.left.toNat<d)(hs:s.size≤899999993):
  Calls Ad 82 #[Adm E.bw,.agg (Adl p q t v)] w (Vy E g w (Dw E.l go ⟨p,q,t,v⟩ s)):=by
 have k:=Hd (h.alloc (.cells (Adl p q t v) 70));have j:=Hd (h.lone 70 (Adl p q t v));have u:=Hd ((Ed.refl E g w).alloc (.cells (Adl p q t v) 70));have bu:=Hd hgo;have bj:=Hd hgoes;obtain⟨f,hf⟩:∃f:Int,(lsFrom E.l p q t v:Int)=f:=⟨_,rfl⟩;obtain⟨a,ha⟩:∃a:Int,(lsAt E.l p q t v:Int)=a:=⟨_,rfl⟩;obtain⟨o,ho⟩:∃a:Int,(lsTo E.l p q t v:Int)=a:=⟨_,rfl⟩;obtain⟨N,hN⟩:∃N:Nat,lsLen E.l p q t v=N:=⟨_,rfl⟩;obtain⟨er,he⟩:∃a,Cm E.l p q t v=a:=⟨_,rfl⟩;have HF:=Hd hf;have Q:=Hd ha;have HO:=Hd ho;have HN:=Hd hN;have dd:=Hd (show(lsLen E.l p q t v:Int)=(N:Int) by rw [hN]);have X:=Hd he;have bm:=h.ok.hc;have eo:=h.ok.hn;have ea:=h.len;clear h hf ha ho hN he hgo hgoes;obtain⟨D,c1,c2,R⟩:=k.o.cells;have G:=Be j.o.1;have H:=Bc j.o.1;have I:=Bb j.o.1;have J:=Bf j.o.1;go_enter func82,ntmps82;go_wp2_with fail;go_region_held3 (fun w'=>w'.cell? ⟨E.bw,0,none⟩=some (.slice E.A E.n E.c)∧w'.cell? ⟨E.bw,3,none⟩=some (.func (.func 44) #[] #[Adm E.bl])∧(w'.cell? ⟨w.heap.size,0,none⟩=some (Aa Ab p)∧w'.cell? ⟨w.heap.size,1,none⟩=some (Aa Ab q)∧w'.cell? ⟨w.heap.size,2,none⟩=some (Aa Ab t)∧w'.cell? ⟨w.heap.size,3,none⟩=some (Aa Ab v))) (first|with_reducible exact⟨D,R,G,H,I,J⟩|with_reducible exact⟨Bi D,Bi R,Bi G,Bi H,Bi I,Bi J⟩) (first|(go_at_call 152;(with_reducible refine(Vc E.A E.n E.c p q t v f a o er E.l _ k.o.drew.b bm (by omega) HF.o Q.o HO.o X.o).mono ?_);rintro e w1 ⟨rfl,K⟩;replace u:=Hd (u.o.drew.below K);replace k:=Hd (k.o.drew.pure K);replace j:=Hd (j.o.drew.pure K);clear D c1 c2 R G H I J;clear K;obtain⟨D,c1,c2,R⟩:=k.o.cells;have G:=Be j.o.1;have H:=Bc j.o.1;have I:=Bb j.o.1;have J:=Bf j.o.1));by_cases he:er=0
 ·subst he;obtain⟨eq,es,aq,b5⟩:=Kl X.o;have b8:=Ab9 X.o;obtain⟨V,rfl⟩:∃V:Nat,v=V:=⟨v.toNat,by omega⟩;rw [Ao,HN.o] at b5 b8;rw [Ao] at aq;have cj:N*V≤N*(V+tgs t):=Nat.mul_le_mul_left _ (Nat.le_add_right _ _);have cc:=Hd b5;have cg:=Hd b8;have de:=Hd cj;have eh:=Hd aq;clear b5 b8 cj aq;go_wp2_with fail;go_region_held3 (fun w'=>w'.cell? ⟨E.bw,0,none⟩=some (.slice E.A E.n E.c)∧w'.cell? ⟨E.bw,3,none⟩=some (.func (.func 44) #[] #[Adm E.bl])∧(w'.cell? ⟨w.heap.size,0,none⟩=some (Aa Ab p)∧w'.cell? ⟨w.heap.size,1,none⟩=some (Aa Ab q)∧w'.cell? ⟨w.heap.size,2,none⟩=some (Aa Ab t)∧w'.cell? ⟨w.heap.size,3,none⟩=some (Aa Ab V))) (first|with_reducible exact⟨D,R,G,H,I,J⟩|with_reducible exact⟨Bi D,Bi R,Bi G,Bi H,Bi I,Bi J⟩) (first|(go_at_call 153;(with_reducible refine(Yt E.A E.n E.c p q t V N 0 E.l _ k.o.drew.b bm (by omega) dd.o X.o).mono ?_);rintro e w1 ⟨rfl,K⟩;replace u:=Hd (u.o.drew.below K);replace k:=Hd (k.o.drew.pure K);replace j:=Hd (j.o.drew.pure K);clear D c1 c2 R G H I J;clear K;obtain⟨D,c1,c2,R⟩:=k.o.cells;have G:=Be j.o.1;have H:=Bc j.o.1;have I:=Bb j.o.1;have J:=Bf j.o.1));obtain⟨y,hy⟩:∃y,Gt E.l go ⟨p,q,t,V⟩ s=y:=⟨_,rfl⟩;have HY:=Hd hy;clear hy;go_upto_if 42 with fail
  go_cut [8] (fun u8 wx=>∃wy,wy=wx∧u8= Aa Ab y.2∧∃g',E6 E g' y.1 wx∧Ed E g g' w wx∧Iz E g' wx w.heap.size 70 (Adl p q t V))
  case first=>
   by_cases h9:t=9
   ·subst h9;have hy:=HY.o;unfold Gt at hy;rw [if_pos rfl] at hy;have hk:=gI E go d bu.o bj.o g s p q 9 V f _ k.o hd (by omega) HF.o;rw [hy] at hk;have m:=Hd hk;clear hy hk;go_wp2_with fail;go_at_call 154;refine m.o.mono ?_;rintro e w2 ⟨rfl,g2,hC,hT⟩;have dc:=Hd hC;have cf:=Hd hT;clear hC hT m;go_wp2_with fail;go_meet;exact⟨_,rfl,rfl,g2,dc.o,u.o.trans cf.o,j.o.to cf.o⟩
   ·have hy:=HY.o;unfold Gt at hy;rw [if_neg h9] at hy;subst hy;have e9:(t==9)=false:=beq_eq_false_iff_ne.mpr h9;clear h9;go_wp2_with fail;go_meet;exact⟨_,rfl,rfl,g,k.o,u.o,j.o⟩
  case rest=>
  obtain⟨w2,rfl,rfl,g2,ci,cl,cn⟩:=hcut;have k:=Hd ci;have u:=Hd cl;have j:=Hd cn;clear ci cl cn;clear D c1 c2 R G H I J;obtain⟨D,c1,c2,R⟩:=k.o.cells;have G:=Be j.o.1;have H:=Bc j.o.1;have I:=Bb j.o.1;have J:=Bf j.o.1;go_upto_region 7 with fail
  go_cut [53] (fun u53 wx=>∃wy,wy=wx∧u53= .bool (decide (y.2=0∧f<a))∧wx=w2)
  case first=>
   clear D c1 c2 R G H I J;clear k u j;by_cases az:y.2=0
   ·have dt:(y.2==0)=true:=by simpa using az
    have dh:=Hd az;clear az;by_cases bo:f<a
    ·have HD:=Hd (show decide (y.2=0∧f<a)=true from decide_eq_true ⟨dh.o,bo⟩);go_wp2_with fail;go_meet;rw [HD.o];exact⟨_,rfl,rfl,rfl⟩
    ·have HD:=Hd (show decide (y.2=0∧f<a)=false from decide_eq_false fun h=>bo h.2);have en:decide (f<a)=false:=decide_eq_false bo;clear bo;go_wp2_with fail;go_meet;rw [HD.o];exact⟨_,rfl,rfl,rfl⟩
   ·have dt:(y.2==0)=false:=beq_eq_false_iff_ne.mpr az;have HD:=Hd (show decide (y.2=0∧f<a)=false from decide_eq_false fun h=>az h.1);clear az;go_wp2_with fail;go_meet;rw [HD.o];exact⟨_,rfl,rfl,rfl⟩
  case rest=>
  obtain⟨w2,rfl,rfl,rfl⟩:=hcut;obtain⟨z,U⟩:∃z,(if y.2=0 then Jk E.l ⟨p,q,t,V⟩ y.1 else y.1)=z:=⟨_,rfl⟩;have HZ:=Hd U;have B:=Oo (l:=E.l) ⟨p,q,t,V⟩ bj.o s;rw [HY.o] at B;have bf:=U7 (l:=E.l) ⟨p,q,t,V⟩ y.1;have b4:z.left≤s.left∧z.size≤s.size+1:=by
   subst U;split
   ·exact⟨Int.le_trans bf.1 B.1,by have:=bf.2;have:=B.2;omega⟩
   ·exact⟨B.1,by have:=B.2;omega⟩
  have eu:y.1.o.length≤899999993:=by have:=Du y.1;have:=B.2;omega
  have du:=b4.1;have dv:=b4.2;clear U B bf b4;go_upto_if 53 with fail
  go_cut [] (fun wx=>∃wy,wy=wx∧∃g',E6 E g' z wx∧Ed E g g' w wx∧Iz E g' wx w.heap.size 70 (Adl p q t V))
  case first=>
   by_cases hc:y.2=0∧f<a
   ·have hd:decide (y.2=0∧f<a)=true:=decide_eq_true hc;rw [hd];have U:=HZ.o;rw [if_pos hc.1] at U;unfold Jk at U;rw [if_pos (by have h1:=HF.o;have h2:=Q.o;have:=hc.2;simp only;omega)] at U;have cs:y.1.tell (a-V) a 6=z:=by rw [←U];simp only [Q.o]
    replace HZ:=Hd cs;have dl:0≤a:=by have:=Q.o;omega
    have dm:a≤4294967296:=by have h1:=Q.o;have h2:=cc.o;omega
    have et:IntKind.i64.wrap (a-V)=a-V:=Ag _ (by omega);clear U cs hd hc;go_wp2_with fail;go_region_held3 (fun w'=>w'.cell? ⟨E.bw,0,none⟩=some (.slice E.A E.n E.c)∧w'.cell? ⟨E.bw,3,none⟩=some (.func (.func 44) #[] #[Adm E.bl])∧(w'.cell? ⟨w.heap.size,0,none⟩=some (Aa Ab p)∧w'.cell? ⟨w.heap.size,1,none⟩=some (Aa Ab q)∧w'.cell? ⟨w.heap.size,2,none⟩=some (Aa Ab t)∧w'.cell? ⟨w.heap.size,3,none⟩=some (Aa Ab V))) (first|with_reducible exact⟨D,R,G,H,I,J⟩|with_reducible exact⟨Bi D,Bi R,Bi G,Bi H,Bi I,Bi J⟩) (first|(go_at_call 44;(with_reducible refine(G6 (a-V) a 6 k.o.drew (by omega)).mono ?_);rintro e w3 ⟨rfl,g3,a9,aw⟩;replace u:=Hd (u.o.drew.trans aw);replace j:=Hd (j.o.drew.to aw);replace k:=Hd a9;clear D c1 c2 R G H I J;clear a9 aw;obtain⟨D,c1,c2,R⟩:=k.o.cells;have G:=Be j.o.1;have H:=Bc j.o.1;have I:=Bb j.o.1;have J:=Bf j.o.1));go_wp2_with fail;go_meet;rw [←HZ.o];exact⟨_,rfl,_,k.o,u.o,j.o⟩
   ·have hd:decide (y.2=0∧f<a)=false:=decide_eq_false hc;rw [hd];have U:=HZ.o;have e:z=y.1:=by
     subst U;split
     ·rename_i h0;unfold Jk;rw [if_neg];intro h;exact hc ⟨h0,by have h1:=HF.o;have h2:=Q.o;simp only at h;omega⟩
     ·rfl
    subst e;clear U hd hc;go_wp2_with fail;go_meet;exact⟨_,rfl,_,k.o,u.o,j.o⟩
  case rest=>
  obtain⟨w3,rfl,g3,a9,aw,co⟩:=hcut;obtain⟨F,hF⟩:∃F,(if y.2=0 then E0 E.l go ⟨p,q,t,V⟩ N 0 z else y)=F:=⟨_,rfl⟩;have eg:=Hd hF;have hrel:wP E go ⟨p,q,t,V⟩ N F w.heap.size w g s (Aa Ab y.2) (Aa Ab 0) w3:=
   ⟨0,z,y.2,g3,rfl,rfl,Nat.zero_le _,a9,aw,co,fun h=>⟨du,dv,by rw [if_pos h] at hF;exact hF⟩,fun h=>by
    have U:=HZ.o;rw [if_neg h] at hF U;rw [←hF,←U]⟩
  have bp:=Hd hrel;have cq:Dw E.l go ⟨p,q,t,V⟩ s=F:=by
   have U:=HZ.o;unfold Dw;rw [if_neg (by rw [X.o];decide),HY.o];by_cases h:y.2=0
   ·rw [if_pos h] at hF U;rw [if_neg (by rw [h];decide),U,←hF];simp only [HN.o]
   ·rw [if_neg h] at hF;rw [if_pos h,hF]
  have cd:=Hd cq;have dg:=Hd (show(N:Int)*(V:Int)≤4294967296∧(0:Int)≤(N:Int)*(V:Int)∧0≤a∧a≤4294967296∧N≤4294967296 from by
   have h1:=cc.o;have h2:=de.o;have h3:=Q.o;have h5:((N*V:Nat):Int)=(N:Int)*(V:Int):=Int.natCast_mul _ _;have h6:N≤N*V:=Nat.le_mul_of_pos_right _ (by omega);refine⟨by omega,by omega,by omega,by omega,by omega⟩)
  clear hF hrel a9 aw co cq;clear D c1 c2 R G H I J;clear k j u;go_upto_region 9 with fail
  go_wp2_with fail;go_loopw [8,10] (fun u8 u10 wr=>wP E go ⟨p,q,t,V⟩ N F w.heap.size w g s u8 u10 wr) (fun _ u10 _=>N-(intOf u10).toNat)
  case atStart=>exact bp.o
  case round=>
   clear bp;obtain⟨i,s1,e1,g1,rfl,rfl,hi,ch,ck,cm,cr,b6⟩:=hrel;have k:=Hd ch;have u:=Hd ck;have j:=Hd cm;have bv:=Hd b6;have bx:=Hd cr;clear ch ck cm b6 cr;obtain⟨em,el,dl,dm,ek⟩:=dg.o;by_cases bn:e1=0
   ·subst bn;obtain⟨dq,ep,bb⟩:=bx.o rfl;by_cases ax:i<N
    ·have C:=Hd bb;clear bb bv bx;obtain⟨st,b7⟩:∃st,Fk E.l ⟨p,q,t,V⟩ i s1=st:=⟨_,rfl⟩;have au:=Ri (l:=E.l) ⟨p,q,t,V⟩ i s1;rw [b7] at au;have bq:st.left≤s.left:=Int.le_trans au.1 dq;have ed:st.size≤s.size+2:=by have:=au.2;omega
     have ec:s1.o.length≤899999999:=by have:=Du s1;omega
     have Y:=Hd b7;clear b7 au;obtain⟨D,c1,c2,R⟩:=k.o.cells;have G:=Be j.o.1;have H:=Bc j.o.1;have I:=Bb j.o.1;have J:=Bf j.o.1;by_cases ay:Fv t=true
     ·have dn:decide (a+(N:Int)*(V:Int)<o)=true:=by
       apply decide_eq_true;have h1:=cg.o;have h2:=HO.o;have h3:=Q.o;have h4:tgs t=1:=if_pos ay;rw [h4,Nat.mul_add,Nat.mul_one] at h1;have h5:((N*V:Nat):Int)=(N:Int)*(V:Int):=Int.natCast_mul _ _;omega
      have e:s1.tell (a+(N:Int)*(V:Int)+(i:Int)) (a+(N:Int)*(V:Int)+(i:Int)+1) 8=st:=by
       rw [←Y.o];unfold Fk;rw [if_pos ay];simp only [Q.o,HN.o]
      have HE:=Hd e;clear e ay;go_wp2_with (go_at_call 44;(with_reducible refine(G6 (a+(N:Int)*(V:Int)+(i:Int)) (a+(N:Int)*(V:Int)+(i:Int)+1) 8 k.o (by omega)).mono ?_);rintro e w4 ⟨rfl,g4,bz,b1⟩;rw [HE.o] at bz;replace u:=Hd (u.o.trans b1);replace j:=Hd (j.o.to b1);replace k:=Hd bz;clear D c1 c2 R G H I J;clear bz b1;obtain⟨D,c1,c2,R⟩:=k.o.cells;have G:=Be j.o.1;have H:=Bc j.o.1;have I:=Bb j.o.1;have J:=Bf j.o.1);go_upto_region 16 with fail
      obtain⟨a0,Z⟩:∃x,Rm E.l p q t V i=x:=⟨_,rfl⟩;obtain⟨b0,aa⟩:∃x,Rn E.l p q t V i=x:=⟨_,rfl⟩;obtain⟨d0,ab⟩:∃x,Pk E.l p q t V i=x:=⟨_,rfl⟩;obtain⟨g0,ae⟩:∃x,Ro E.l p q t V i=x:=⟨_,rfl⟩;obtain⟨ee,ad⟩:∃x,Eu E.l p q t V i=x:=⟨_,rfl⟩;have a1:=Hd Z;have a2:=Hd aa;have a3:=Hd ab;have a4:=Hd ae;have S:=Hd ad;clear Z aa ab ae ad;have M:=k.o.new;have bt:=Hd M;clear M;clear D c1 c2 R G H I J;go_cut [8] from 64 to 108 (fun u8 wx=>∃wy,wy=wx∧u8= Aa Ab ee∧Bh wx w4.heap.size 70 (Adl a0 b0 d0 g0)∧Below w4.heap.size w4 wx)
      case first=>
       have m:=Hd (Bh.new w4 70 (Adl 0 0 0 0));have HQ:=Hd ((Af w4.heap.size w4).alloc (Ae _) (.cells (Adl 0 0 0 0) 70));have HW:=Hd (k.o.W.alloc (.cells (Adl 0 0 0 0) 70));have HR:=Hd (j.o.1.alloc (.cells (Adl 0 0 0 0) 70));have HL:=Hd (k.o.b.alloc (.cells (Adl 0 0 0 0) 70));have dr:E.bw≠w4.heap.size:=by have:=k.o.W.lt;omega
       have ds:w.heap.size≠w4.heap.size:=by have:=j.o.1.lt;omega
       clear k u j C Y;generalize w4.alloc (.cells (Adl 0 0 0 0) 70)=wa at m HQ HW HR HL⊢;have D:_=some (Value.slice E.A E.n E.c):=HW.o.cell 0;obtain ⟨G,H,I,J⟩:=HR.o.c4;obtain ⟨q0,q1,q2,q3⟩:=m.o.c4;obtain ⟨p0,p1,p2,p3⟩:=m.o.f4;go_region_held3 (fun w'=>w'.cell? ⟨E.bw,0,none⟩=some (.slice E.A E.n E.c)∧(w'.cell? ⟨w.heap.size,0,none⟩=some (Aa Ab p)∧w'.cell? ⟨w.heap.size,1,none⟩=some (Aa Ab q)∧w'.cell? ⟨w.heap.size,2,none⟩=some (Aa Ab t)∧w'.cell? ⟨w.heap.size,3,none⟩=some (Aa Ab V))) ((with_reducible refine⟨?_,?_,?_,?_,?_⟩) <;>(repeat (first|with_reducible assumption|with_reducible refine B3 ?_|with_reducible refine C4 _ ?_|with_reducible refine J1 ?_ ?_)))
        (first|(go_at_call 155;(with_reducible refine(Wu E.A E.n E.c p q t V i a0 b0 d0 g0 ee E.l _ (HL.o.pure (Af _ _).drew) bm (by omega) a1.o a2.o a3.o a4.o S.o).mono ?_);rintro e w5 ⟨rfl,hb⟩;replace HQ:=Hd (Ba HQ.o.drew hb);replace HW:=Hd (HW.o.drew.pure hb);replace HR:=Hd (HR.o.drew.pure hb);replace m:=Hd (m.o.drew.pure hb);clear hb D G H I J q0 q1 q2 q3 p0 p1 p2 p3;have D:_=some (Value.slice E.A E.n E.c):=HW.o.cell 0;obtain ⟨G,H,I,J⟩:=HR.o.c4;obtain ⟨q0,q1,q2,q3⟩:=m.o.c4;obtain ⟨p0,p1,p2⟩:=m.o.f3;have p3:=m.o.frozen 3))
       go_wp2_with fail;go_meet;exact⟨_,rfl,rfl,(((m.o.set_ 0 _).set_ 1 _).set_ 2 _).set_ 3 _,B6 _ HQ.o (Ae _) _ _ _ _⟩
      case rest=>
      obtain⟨w6,rfl,rfl,bd,T⟩:=hcut;have m:=Hd (show Iz E g4 w6 w4.heap.size 70 (Adl a0 b0 d0 g0) from⟨bd,bt.o⟩);replace k:=Hd (k.o.pure T);replace j:=Hd (j.o.pure T);replace u:=Hd (u.o.below T);clear bd T;by_cases O:ee=0
      ·subst O;have ap:=V6 X.o (by rw [HN.o];exact ax) S.o;have am:Cq E.l ⟨p,q,t,V⟩ i=⟨a0,b0,d0,g0⟩:=by unfold Cq;simp only [a1.o,a2.o,a3.o,a4.o]
       rw [am] at ap;obtain⟨y2,ar⟩:∃y,go ⟨a0,b0,d0,g0⟩ st=y:=⟨_,rfl⟩;have P:=Qp (l:=E.l) (r:=⟨p,q,t,V⟩) S.o Y.o am ar ax C.o;have an:=bu.o _ st a0 b0 d0 g0 w6 k.o (by omega) (by omega) ap;have ao:=bj.o ⟨a0,b0,d0,g0⟩ st;rw [ar] at an ao;have a5:=Hd an;have a6:=Hd ao;have L:=Hd P;have k0:=Be m.o.1;have k1:=Bc m.o.1;have k2:=Bb m.o.1;have k3:=Bf m.o.1;clear ap am ar P an ao C;go_wp2_with fail;go_at_call 45;refine a5.o.mono ?_;rintro e w7 ⟨rfl,g7,ba,al⟩;replace u:=Hd (u.o.trans al);replace j:=Hd (j.o.to al);replace k:=Hd ba;clear m ba al a5 k0 k1 k2 k3;go_wp2_with fail;go_roundw
       case rel=>exact⟨i+1,y2.1,y2.2,g7,rfl,by go_num,by omega,k.o,u.o,j.o,fun h=>⟨Int.le_trans a6.o.1.1 bq,by have:=a6.o.2 h;omega,L.o.1 h⟩,L.o.2⟩
       case measure=>simp [intOf];omega
      ·have K:(ee==0)=false:=beq_eq_false_iff_ne.mpr O;have bs:=Hd (Qo (l:=E.l) (r:=⟨p,q,t,V⟩) S.o O Y.o ax C.o);have br:=Hd O;clear O C;go_wp2_with fail;go_roundw
       case rel=>exact⟨i+1,st,ee,_,rfl,by go_num,by omega,k.o,u.o,j.o,fun h=>absurd h br.o,fun _=>bs.o⟩
       case measure=>simp [intOf];omega
     ·have dn:decide (a+(N:Int)*(V:Int)<o)=false:=by
       apply decide_eq_false;have h1:=cg.o;have h2:=HO.o;have h3:=Q.o;have h4:tgs t=0:=if_neg ay;rw [h4,Nat.add_zero] at h1;have h5:((N*V:Nat):Int)=(N:Int)*(V:Int):=Int.natCast_mul _ _;omega
      have e:st=s1:=by
       rw [←Y.o];unfold Fk;rw [if_neg ay]
      subst e;clear ay;go_upto_region 16 with fail
      obtain⟨a0,Z⟩:∃x,Rm E.l p q t V i=x:=⟨_,rfl⟩;obtain⟨b0,aa⟩:∃x,Rn E.l p q t V i=x:=⟨_,rfl⟩;obtain⟨d0,ab⟩:∃x,Pk E.l p q t V i=x:=⟨_,rfl⟩;obtain⟨g0,ae⟩:∃x,Ro E.l p q t V i=x:=⟨_,rfl⟩;obtain⟨ee,ad⟩:∃x,Eu E.l p q t V i=x:=⟨_,rfl⟩;have a1:=Hd Z;have a2:=Hd aa;have a3:=Hd ab;have a4:=Hd ae;have S:=Hd ad;clear Z aa ab ae ad;have M:=k.o.new;have bt:=Hd M;clear M;clear D c1 c2 R G H I J;go_cut [8] from 64 to 108 (fun u8 wx=>∃wy,wy=wx∧u8= Aa Ab ee∧Bh wx wr.heap.size 70 (Adl a0 b0 d0 g0)∧Below wr.heap.size wr wx)
      case first=>
       have m:=Hd (Bh.new wr 70 (Adl 0 0 0 0));have HQ:=Hd ((Af wr.heap.size wr).alloc (Ae _) (.cells (Adl 0 0 0 0) 70));have HW:=Hd (k.o.W.alloc (.cells (Adl 0 0 0 0) 70));have HR:=Hd (j.o.1.alloc (.cells (Adl 0 0 0 0) 70));have HL:=Hd (k.o.b.alloc (.cells (Adl 0 0 0 0) 70));have dr:E.bw≠wr.heap.size:=by have:=k.o.W.lt;omega
       have ds:w.heap.size≠wr.heap.size:=by have:=j.o.1.lt;omega
       clear k u j C Y;generalize wr.alloc (.cells (Adl 0 0 0 0) 70)=wa at m HQ HW HR HL⊢;have D:_=some (Value.slice E.A E.n E.c):=HW.o.cell 0;obtain ⟨G,H,I,J⟩:=HR.o.c4;obtain ⟨q0,q1,q2,q3⟩:=m.o.c4;obtain ⟨p0,p1,p2,p3⟩:=m.o.f4;go_region_held3 (fun w'=>w'.cell? ⟨E.bw,0,none⟩=some (.slice E.A E.n E.c)∧(w'.cell? ⟨w.heap.size,0,none⟩=some (Aa Ab p)∧w'.cell? ⟨w.heap.size,1,none⟩=some (Aa Ab q)∧w'.cell? ⟨w.heap.size,2,none⟩=some (Aa Ab t)∧w'.cell? ⟨w.heap.size,3,none⟩=some (Aa Ab V))) ((with_reducible refine⟨?_,?_,?_,?_,?_⟩) <;>(repeat (first|with_reducible assumption|with_reducible refine B3 ?_|with_reducible refine C4 _ ?_|with_reducible refine J1 ?_ ?_)))
        (first|(go_at_call 155;(with_reducible refine(Wu E.A E.n E.c p q t V i a0 b0 d0 g0 ee E.l _ (HL.o.pure (Af _ _).drew) bm (by omega) a1.o a2.o a3.o a4.o S.o).mono ?_);rintro e w5 ⟨rfl,hb⟩;replace HQ:=Hd (Ba HQ.o.drew hb);replace HW:=Hd (HW.o.drew.pure hb);replace HR:=Hd (HR.o.drew.pure hb);replace m:=Hd (m.o.drew.pure hb);clear hb D G H I J q0 q1 q2 q3 p0 p1 p2 p3;have D:_=some (Value.slice E.A E.n E.c):=HW.o.cell 0;obtain ⟨G,H,I,J⟩:=HR.o.c4;obtain ⟨q0,q1,q2,q3⟩:=m.o.c4;obtain ⟨p0,p1,p2⟩:=m.o.f3;have p3:=m.o.frozen 3))
       go_wp2_with fail;go_meet;exact⟨_,rfl,rfl,(((m.o.set_ 0 _).set_ 1 _).set_ 2 _).set_ 3 _,B6 _ HQ.o (Ae _) _ _ _ _⟩
      case rest=>
      obtain⟨w6,rfl,rfl,bd,T⟩:=hcut;have m:=Hd (show Iz E g1 w6 wr.heap.size 70 (Adl a0 b0 d0 g0) from⟨bd,bt.o⟩);replace k:=Hd (k.o.pure T);replace j:=Hd (j.o.pure T);replace u:=Hd (u.o.below T);clear bd T;by_cases O:ee=0
      ·subst O;have ap:=V6 X.o (by rw [HN.o];exact ax) S.o;have am:Cq E.l ⟨p,q,t,V⟩ i=⟨a0,b0,d0,g0⟩:=by unfold Cq;simp only [a1.o,a2.o,a3.o,a4.o]
       rw [am] at ap;obtain⟨y2,ar⟩:∃y,go ⟨a0,b0,d0,g0⟩ st=y:=⟨_,rfl⟩;have P:=Qp (l:=E.l) (r:=⟨p,q,t,V⟩) S.o Y.o am ar ax C.o;have an:=bu.o _ st a0 b0 d0 g0 w6 k.o (by omega) (by omega) ap;have ao:=bj.o ⟨a0,b0,d0,g0⟩ st;rw [ar] at an ao;have a5:=Hd an;have a6:=Hd ao;have L:=Hd P;have k0:=Be m.o.1;have k1:=Bc m.o.1;have k2:=Bb m.o.1;have k3:=Bf m.o.1;clear ap am ar P an ao C;go_wp2_with fail;go_at_call 45;refine a5.o.mono ?_;rintro e w7 ⟨rfl,g7,ba,al⟩;replace u:=Hd (u.o.trans al);replace j:=Hd (j.o.to al);replace k:=Hd ba;clear m ba al a5 k0 k1 k2 k3;go_wp2_with fail;go_roundw
       case rel=>exact⟨i+1,y2.1,y2.2,g7,rfl,by go_num,by omega,k.o,u.o,j.o,fun h=>⟨Int.le_trans a6.o.1.1 bq,by have:=a6.o.2 h;omega,L.o.1 h⟩,L.o.2⟩
       case measure=>simp [intOf];omega
      ·have K:(ee==0)=false:=beq_eq_false_iff_ne.mpr O;have bs:=Hd (Qo (l:=E.l) (r:=⟨p,q,t,V⟩) S.o O Y.o ax C.o);have br:=Hd O;clear O C;go_wp2_with fail;go_roundw
       case rel=>exact⟨i+1,st,ee,_,rfl,by go_num,by omega,k.o,u.o,j.o,fun h=>absurd h br.o,fun _=>bs.o⟩
       case measure=>simp [intOf];omega
    ·have cp:N-i=0:=by omega
     rw [cp] at bb;have C:=Hd (show F=(s1,0) from bb.symm);clear bb cp;go_wp2_with fail;go_ret;rw [cd.o,C.o];exact⟨rfl,_,k.o,u.o⟩
   ·have K:(e1==0)=false:=beq_eq_false_iff_ne.mpr bn;have C:=Hd (bv.o bn);clear bn bv bx;go_wp2_with fail
    all_goals
     go_ret;rw [cd.o,C.o];exact⟨rfl,_,k.o,u.o⟩
 ·have b6:(er != 0)=true:=by simpa using he
  have e:Dw E.l go ⟨p,q,t,v⟩ s=(s,er):=by
   unfold Dw;rw [X.o,if_pos he]
  have HR:=Hd e;clear e he;go_wp2_with fail;go_ret;rw [HR.o];exact⟨rfl,_,k.o,u.o⟩
theorem xL(h:E6 E g s w){x:Int}(hx:s.left-1=x):E6 E g s.burn (w.setCell ⟨E.bw,1,none⟩ (Aa Ab x))∧Ed E g g w (w.setCell ⟨E.bw,1,none⟩ (Aa Ab x)):=by
 subst hx;have c:Fr (fun k=>k=E.bw) w (w.setCell ⟨E.bw,1,none⟩ (Aa Ab (s.left-1))):=Fr.setCell (S:=fun k=>k=E.bw) (Fr.refl _ _) (fun _=>rfl) _;have a:=h.ok;refine⟨⟨a,h.b.fr c ?_,h.W.set_ 1 _,h.M.fr c a.mw,h.O.fr c a.lw ?_,Nat.le_trans h.sz c.size⟩,c.mono ?_,fun _ _ h=>h⟩
 ·intro f d e;have:=a.hA f d;have:=a.w0;omega
 ·intro k j e;have:=(h.O.row k j).1;have:=a.w2;omega
 ·rintro k _ rfl i;exact i.2.2.1 rfl
theorem Abh(h:E6 E g s w)(x:P3)(hM:Js w' E.bm (s.had++ [x]))(hf:Fr (fun k=>k=E.bm) w w'):E6 E g (s.see x) w'∧Ed E g g w w':=by
 have a:=h.ok;refine⟨⟨a,h.b.fr hf ?_,h.W.fr hf (Ne.symm a.mw),hM,h.O.fr hf a.lm ?_,Nat.le_trans h.sz hf.size⟩,hf.mono ?_,fun _ _ h=>h⟩
 ·intro d c e;have:=a.hA d c;have:=a.m0;omega
 ·intro k i e;have:=(h.O.row k i).1;have:=a.m2;omega
 ·rintro k _ rfl f;exact f.2.1 rfl
theorem aO(A:Option Addr)(n c:Nat)(p q t v a er:Int)(l:List UInt8)(w:World)(hl:Ca w A n l)(hc:n≤c)(hn:n≤1099511627776)(h1:By l p q t v=a)(h2:B7 l p q t v=er):
  Calls Ad 79 #[.slice A n c,.agg (Adl p q t v)] w (Adh (.tuple #[Aa Ab a,Aa Ab er]) w):=by
 subst h1 h2;exact Jz A n c p q t v l w hl hc (by omega)
theorem Oq(t:Int)(b:Bool)(w:World)(h:Bs t=b):Calls Ad 78 #[Aa Ab t] w (Adh (.bool b) w):=by
 subst h;exact C0 t w
theorem We(E:Iy):∀d,Yb E (Cj E.l d) d
 |0=>fun g s p q t v w h hd hs hr=>absurd hd (Nat.not_lt_zero _)
 |d+1=>fun g s p q t v w h hd hs hr=>by
  have ih:=We E d;have bb:=Hd ih;have m:=Hd (h.alloc (.cells (Adl p q t v) 70));have j:=Hd (h.lone 70 (Adl p q t v));have B:=Hd ((Ed.refl E g w).alloc (.cells (Adl p q t v) 70));have bi:=h.ok.hc;have b6:=h.ok.hn;have bx:=h.len;obtain⟨bk,bo,bp,bn⟩:=hr;simp only at bk bo bp bn;clear ih h;have ak:8*s.left.toNat≤900000000:=by unfold Bk.size at hs;omega
  obtain⟨C,O,c2,D⟩:=m.o.cells;have F:=Be j.o.1;have G:=Bc j.o.1;have H:=Bb j.o.1;have I:=Bf j.o.1;by_cases hl:s.left<1
  ·have hR:Cj E.l (d+1) ⟨p,q,t,v⟩ s=(s,260):=by unfold Cj;rw [if_pos hl]
   have P:=Hd hR;clear hR;go_enter func45,ntmps45;go_wp2_with fail;go_ret;rw [P.o];exact⟨rfl,_,m.o,B.o⟩
  ·have br:IntKind.i64.wrap (s.left-1)=s.left-1:=Ag _ (by omega);have b7:IntKind.i64.wrap (p+q)=p+q:=Ag _ (by omega);have bq:s.burn.size+8=s.size:=by unfold Bk.size Bk.burn;simp only;omega
   have a4:=O4 s.burn p (p+q) (Fz t);have U:=Ef s.burn p (p+q) (Fz t);have HL:=Hd (show 1≤s.left by omega);have f1:=m.o.W.frozen 1;have az:=xL m.o (x:=s.left-1) rfl;have V:=Hd az;clear az;go_enter func45,ntmps45;go_upto_region 4 with fail
   replace m:=Hd V.o.1;replace j:=Hd (j.o.to V.o.2);replace B:=Hd (B.o.trans V.o.2);clear V f1;generalize (w.alloc (.cells (Adl p q t v) 70)).setCell ⟨E.bw,1,none⟩ (Aa Ab (s.left-1))=w1 at m j B⊢;clear C O c2 D F G H I;obtain⟨C,O,c2,D⟩:=m.o.cells;have F:=Be j.o.1;have G:=Bc j.o.1;have H:=Bb j.o.1;have I:=Bf j.o.1;go_region_held3 (fun w'=>w'.cell? ⟨E.bw,0,none⟩=some (.slice E.A E.n E.c)∧w'.cell? ⟨E.bw,3,none⟩=some (.func (.func 44) #[] #[Adm E.bl])∧(w'.cell? ⟨w.heap.size,0,none⟩=some (Aa Ab p)∧w'.cell? ⟨w.heap.size,1,none⟩=some (Aa Ab q)∧w'.cell? ⟨w.heap.size,2,none⟩=some (Aa Ab t)∧w'.cell? ⟨w.heap.size,3,none⟩=some (Aa Ab v))) (first|with_reducible exact⟨C,D,F,G,H,I⟩|with_reducible exact⟨Bi C,Bi D,Bi F,Bi G,Bi H,Bi I⟩) (first|(go_at_call 77;(with_reducible refine(vE t _).mono ?_);rintro e w2 ⟨rfl,hb⟩;replace B:=Hd (B.o.drew.below hb);replace m:=Hd (m.o.drew.pure hb);replace j:=Hd (j.o.drew.pure hb);clear C O c2 D F G H I;clear hb;obtain⟨C,O,c2,D⟩:=m.o.cells;have F:=Be j.o.1;have G:=Bc j.o.1;have H:=Bb j.o.1;have I:=Bf j.o.1)|(go_at_call 44;(with_reducible refine(G6 p (p+q) (Fz t) m.o (by have:=Du s.burn;omega)).mono ?_);rintro e w3 ⟨rfl,g3,av,ah⟩;replace B:=Hd (B.o.trans ah);replace j:=Hd (j.o.to ah);replace m:=Hd av;clear C O c2 D F G H I;clear av ah;obtain⟨C,O,c2,D⟩:=m.o.cells;have F:=Be j.o.1;have G:=Bc j.o.1;have H:=Bb j.o.1;have I:=Bf j.o.1));obtain⟨s1,aa⟩:∃s1,s.burn.tell p (p+q) (Fz t)=s1:=⟨_,rfl⟩;rw [aa] at a4 U;have a3:D0 ⟨p,q,t,v⟩ s=s1:=aa;have ad:s1.left.toNat<d:=by rw [U];unfold Bk.burn;simp only;omega
   have ae:s1.size≤899999993:=by omega
   replace m:=Hd (aa▸m.o);have Y:=Hd a3;clear aa a4 U a3 hl bq br hs hd ak;go_wp2_with fail;go_at_call 78;by_cases hi:Bs t=true
   ·refine(Oq t true _ hi).mono ?_;rintro e w4 ⟨rfl,hb⟩;replace B:=Hd (B.o.below hb);replace m:=Hd (m.o.pure hb);replace j:=Hd (j.o.pure hb);clear C O c2 D F G H I;clear hb;obtain⟨C,O,c2,D⟩:=m.o.cells;have F:=Be j.o.1;have G:=Bc j.o.1;have H:=Bb j.o.1;have I:=Bf j.o.1;have hR:Cj E.l (d+1) ⟨p,q,t,v⟩ s=(s1,0):=by unfold Cj;rw [if_neg (Int.not_lt.mpr HL.o),if_pos hi,Y.o]
    have P:=Hd hR;clear hR hi;go_wp2_with fail;go_ret;rw [P.o];exact⟨rfl,_,m.o,B.o⟩
   ·have a0:Bs t=false:=by simpa using hi
    refine(Oq t false _ a0).mono ?_;rintro e w4 ⟨rfl,hb⟩;replace B:=Hd (B.o.below hb);replace m:=Hd (m.o.pure hb);replace j:=Hd (j.o.pure hb);clear C O c2 D F G H I;clear hb;obtain⟨C,O,c2,D⟩:=m.o.cells;have F:=Be j.o.1;have G:=Bc j.o.1;have H:=Bb j.o.1;have I:=Bf j.o.1;have HI:=Hd hi;clear hi a0;obtain⟨a,ha⟩:∃a,By E.l p q t v=a:=⟨_,rfl⟩;obtain⟨er,Q⟩:∃a,B7 E.l p q t v=a:=⟨_,rfl⟩;have HA:=Hd ha;have af:=Hd Q;clear ha Q;go_wp2_with fail;go_region_held3 (fun w'=>w'.cell? ⟨E.bw,0,none⟩=some (.slice E.A E.n E.c)∧w'.cell? ⟨E.bw,3,none⟩=some (.func (.func 44) #[] #[Adm E.bl])∧(w'.cell? ⟨w.heap.size,0,none⟩=some (Aa Ab p)∧w'.cell? ⟨w.heap.size,1,none⟩=some (Aa Ab q)∧w'.cell? ⟨w.heap.size,2,none⟩=some (Aa Ab t)∧w'.cell? ⟨w.heap.size,3,none⟩=some (Aa Ab v))) (first|with_reducible exact⟨C,D,F,G,H,I⟩|with_reducible exact⟨Bi C,Bi D,Bi F,Bi G,Bi H,Bi I⟩) (first|(go_at_call 79;(with_reducible refine(aO E.A E.n E.c p q t v a er E.l _ m.o.drew.b bi (by omega) HA.o af.o).mono ?_);rintro e R ⟨rfl,hb⟩;replace B:=Hd (B.o.drew.below hb);replace m:=Hd (m.o.drew.pure hb);replace j:=Hd (j.o.drew.pure hb);clear C O c2 D F G H I;clear hb;obtain⟨C,O,c2,D⟩:=m.o.cells;have F:=Be j.o.1;have G:=Bc j.o.1;have H:=Bb j.o.1;have I:=Bf j.o.1));go_upto_region 9 with fail
    have HY:=Hd (Bh.new R 115 #[Aa Ab a,Aa Ab t,Aa Ab v]);replace m:=Hd (m.o.alloc (.cells #[Aa Ab a,Aa Ab t,Aa Ab v] 115));replace j:=Hd (j.o.pure ((Af _ _).alloc (Ae _) (.cells #[Aa Ab a,Aa Ab t,Aa Ab v] 115)));replace B:=Hd (B.o.alloc (.cells #[Aa Ab a,Aa Ab t,Aa Ab v] 115));have a2:Hw E.l ⟨p,q,t,v⟩=(a,t,v):=by unfold Hw;simp only [HA.o]
    have a6:Cj E.l (d+1) ⟨p,q,t,v⟩ s=if er≠0∨(a,t,v)∈s1.had then(s1,er) else Dv E.l (Cj E.l d) ⟨p,q,t,v⟩ (s1.see (a,t,v)):=by
     unfold Cj;rw [if_neg (Int.not_lt.mpr HL.o),if_neg HI.o,Y.o,a2,af.o];have:s1.had=s.had:=by rw [←Y.o];exact Ga _ _ _ _
     rw [this]
    have Z:=Hd a6;clear a2 a6;clear C O c2 D F G H I;generalize R.alloc (.cells #[Aa Ab a,Aa Ab t,Aa Ab v] 115)=w6 at m j B HY⊢;obtain⟨C,O,c2,D⟩:=m.o.cells;have F:=Be j.o.1;have G:=Bc j.o.1;have H:=Bb j.o.1;have I:=Bf j.o.1;obtain ⟨y0,y1,y2⟩:=HY.o.c3;by_cases Q:er=0
    ·subst Q;by_cases hm:(a,t,v)∈s1.had
     ·have a1:(Instr.lookup 74 (.map (some E.bm)) (.agg #[Aa Ab a,Aa Ab t,Aa Ab v]) false).run Ad w6.drew= .ok (.bool true) w6.drew:=by
       have:=O2 underlying74 underlying115 Y5 Y4 O3 E.bm s1.had (a,t,v) w6.drew m.o.drew.M;rw [decide_eq_true hm] at this;exact this
      have hr:=Z.o;rw [if_pos (.inr hm)] at hr;have P:=Hd hr;clear hr hm;go_region_held3 (fun w'=>w'.cell? ⟨E.bw,2,none⟩=some (.map (some E.bm))∧(w'.cell? ⟨R.heap.size,0,none⟩=some (Aa Ab a)∧w'.cell? ⟨R.heap.size,1,none⟩=some (Aa Ab t)∧w'.cell? ⟨R.heap.size,2,none⟩=some (Aa Ab v))) (first|with_reducible exact⟨c2,y0,y1,y2⟩|with_reducible exact⟨Bi c2,Bi y0,Bi y1,Bi y2⟩) (fail);go_wp2_with fail;go_ret;rw [P.o];exact⟨rfl,_,m.o.drew,B.o.drew⟩
     ·have a1:(Instr.lookup 74 (.map (some E.bm)) (.agg #[Aa Ab a,Aa Ab t,Aa Ab v]) false).run Ad w6.drew= .ok (.bool false) w6.drew:=by
       have:=O2 underlying74 underlying115 Y5 Y4 O3 E.bm s1.had (a,t,v) w6.drew m.o.drew.M;rw [decide_eq_false hm] at this;exact this
      have hr:=Z.o;rw [if_neg (by simp [hm])] at hr;have P:=Hd hr;obtain⟨w7,T,ax,aj,a5⟩:=fJ underlying74 underlying115 Y5 Y4 E.bm s1.had (a,t,v) w6.drew.drew m.o.drew.drew.M hm;obtain⟨aw,ai⟩:=Abh m.o.drew.drew (a,t,v) ax aj;have X:=Hd aw;have ao:=Hd (j.o.drew.drew.to ai);have an:=Hd (B.o.drew.drew.trans ai);replace T:(Instr.mapUpdate 74 (.map (some E.bm)) (.agg #[.int .i64 a,.int .i64 t,.int .i64 v]) (.bool true)).run Ad w6.drew.drew= .ok () w7:=T;have d2:=X.o.cells.2.2.1;have a7:R.heap.size≠E.bm:=by
       have:=HY.o;have h2:=m.o.M;rintro e;obtain⟨es,k,hb,_⟩:=h2;rw [←e] at hb;unfold Bh at this;rw [this] at hb;cases hb
      have aq:=Hd (HY.o.drew.drew.fr aj a7);obtain ⟨z0,z1,z2⟩:=aq.o.c3;clear hr hm ax aj a5 aw ai a7 Z Y HL HA af HI;go_region_held3 (fun w'=>w'.cell? ⟨E.bw,2,none⟩=some (.map (some E.bm))∧(w'.cell? ⟨R.heap.size,0,none⟩=some (Aa Ab a)∧w'.cell? ⟨R.heap.size,1,none⟩=some (Aa Ab t)∧w'.cell? ⟨R.heap.size,2,none⟩=some (Aa Ab v))) (first|with_reducible exact⟨c2,y0,y1,y2⟩|with_reducible exact⟨Bi c2,Bi y0,Bi y1,Bi y2⟩) (fail);go_wp2_with fail;go_region_held3 (fun w'=>w'.cell? ⟨E.bw,2,none⟩=some (.map (some E.bm))∧(w'.cell? ⟨R.heap.size,0,none⟩=some (Aa Ab a)∧w'.cell? ⟨R.heap.size,1,none⟩=some (Aa Ab t)∧w'.cell? ⟨R.heap.size,2,none⟩=some (Aa Ab v))) (first|with_reducible exact⟨c2,y0,y1,y2⟩|with_reducible exact⟨Bi c2,Bi y0,Bi y1,Bi y2⟩|with_reducible exact⟨Bi (Bi c2),Bi (Bi y0),Bi (Bi y1),Bi (Bi y2)⟩|with_reducible exact⟨d2,z0,z1,z2⟩) (fail);obtain⟨s2,ab⟩:∃s2,s1.see (a,t,v)=s2:=⟨_,rfl⟩;have bj:s2.left.toNat<d:=by subst ab;exact ad
      have b8:s2.size≤899999993:=by subst ab;exact ae
      rw [ab] at X P;clear ab a1 T d2 z0 z1 z2 y0 y1 y2 HY aq ad ae;clear C O c2 D F G H I;clear m j B;have m:=X;have j:=ao;have B:=an;clear X ao an;obtain⟨C,O,c2,D⟩:=m.o.cells;have F:=Be j.o.1;have G:=Bc j.o.1;have H:=Bb j.o.1;have I:=Bf j.o.1;by_cases h4:t=4
      ·subst h4;obtain⟨y,N⟩:∃y,Cx E.l ⟨p,q,4,v⟩ s2=y:=⟨_,rfl⟩;have f:=O9 E _ s2 p q 4 v _ m.o (by have:=Du s2;omega);rw [N] at f;have i:=P.o.trans (show Dv E.l (Cj E.l d) ⟨p,q,4,v⟩ s2=Cx E.l ⟨p,q,4,v⟩ s2 from rfl);rw [N] at i;have r:=Hd f;have K:=Hd i;clear N f i;go_wp2_with fail;go_at_call 80;refine r.o.mono ?_;rintro e w8 ⟨rfl,g8,u,z⟩;have J:=Hd u;have L:=Hd z;clear C O c2 D F G H I;clear u z r;go_wp2_with fail;go_ret;rw [K.o];exact⟨rfl,_,J.o,B.o.trans L.o⟩
      have e4:(t==4)=false:=beq_eq_false_iff_ne.mpr h4;by_cases h5:t=5
      ·subst h5;obtain⟨y,N⟩:∃y,Cx E.l ⟨p,q,5,v⟩ s2=y:=⟨_,rfl⟩;have f:=O9 E _ s2 p q 5 v _ m.o (by have:=Du s2;omega);rw [N] at f;have i:=P.o.trans (show Dv E.l (Cj E.l d) ⟨p,q,5,v⟩ s2=Cx E.l ⟨p,q,5,v⟩ s2 from rfl);rw [N] at i;have r:=Hd f;have K:=Hd i;clear N f i;go_wp2_with fail;go_at_call 80;refine r.o.mono ?_;rintro e w8 ⟨rfl,g8,u,z⟩;have J:=Hd u;have L:=Hd z;clear C O c2 D F G H I;clear u z r;go_wp2_with fail;go_ret;rw [K.o];exact⟨rfl,_,J.o,B.o.trans L.o⟩
      have e5:(t==5)=false:=beq_eq_false_iff_ne.mpr h5;by_cases ag:t=25
      ·subst ag;obtain⟨y,N⟩:∃y,Cx E.l ⟨p,q,25,v⟩ s2=y:=⟨_,rfl⟩;have f:=O9 E _ s2 p q 25 v _ m.o (by have:=Du s2;omega);rw [N] at f;have i:=P.o.trans (show Dv E.l (Cj E.l d) ⟨p,q,25,v⟩ s2=Cx E.l ⟨p,q,25,v⟩ s2 from rfl);rw [N] at i;have r:=Hd f;have K:=Hd i;clear N f i;go_wp2_with fail;go_at_call 80;refine r.o.mono ?_;rintro e w8 ⟨rfl,g8,u,z⟩;have J:=Hd u;have L:=Hd z;clear C O c2 D F G H I;clear u z r;go_wp2_with fail;go_ret;rw [K.o];exact⟨rfl,_,J.o,B.o.trans L.o⟩
      have b3:(t==25)=false:=beq_eq_false_iff_ne.mpr ag;by_cases h6:t=6
      ·subst h6;obtain⟨y,N⟩:∃y,C8 E.l ⟨p,q,6,v⟩ s2=y:=⟨_,rfl⟩;have f:=Sb E _ s2 p q 6 v _ m.o (by have:=Du s2;omega);rw [N] at f;have i:=P.o.trans (show Dv E.l (Cj E.l d) ⟨p,q,6,v⟩ s2=C8 E.l ⟨p,q,6,v⟩ s2 from rfl);rw [N] at i;have r:=Hd f;have K:=Hd i;clear N f i;go_wp2_with fail;go_at_call 81;refine r.o.mono ?_;rintro e w8 ⟨rfl,g8,u,z⟩;have J:=Hd u;have L:=Hd z;clear C O c2 D F G H I;clear u z r;go_wp2_with fail;go_ret;rw [K.o];exact⟨rfl,_,J.o,B.o.trans L.o⟩
      have e6:(t==6)=false:=beq_eq_false_iff_ne.mpr h6;by_cases h7:t=7
      ·subst h7;obtain⟨y,N⟩:∃y,C8 E.l ⟨p,q,7,v⟩ s2=y:=⟨_,rfl⟩;have f:=Sb E _ s2 p q 7 v _ m.o (by have:=Du s2;omega);rw [N] at f;have i:=P.o.trans (show Dv E.l (Cj E.l d) ⟨p,q,7,v⟩ s2=C8 E.l ⟨p,q,7,v⟩ s2 from rfl);rw [N] at i;have r:=Hd f;have K:=Hd i;clear N f i;go_wp2_with fail;go_at_call 81;refine r.o.mono ?_;rintro e w8 ⟨rfl,g8,u,z⟩;have J:=Hd u;have L:=Hd z;clear C O c2 D F G H I;clear u z r;go_wp2_with fail;go_ret;rw [K.o];exact⟨rfl,_,J.o,B.o.trans L.o⟩
      have e7:(t==7)=false:=beq_eq_false_iff_ne.mpr h7;have S:Dv E.l (Cj E.l d) ⟨p,q,t,v⟩ s2=Dw E.l (Cj E.l d) ⟨p,q,t,v⟩ s2:=by
       unfold Dv;rw [if_neg (by simp [Ll];omega),if_neg (by simp only;omega)]
      have ba:=Hd S;clear S h4 h5 ag h6 h7;obtain⟨y,N⟩:∃y,Dw E.l (Cj E.l d) ⟨p,q,t,v⟩ s2=y:=⟨_,rfl⟩;have f:=gJ E _ d bb.o (Ol E.l d) _ s2 p q t v _ m.o bj (by omega);rw [N] at f;have i:=P.o.trans (show Dv E.l (Cj E.l d) ⟨p,q,t,v⟩ s2=Dw E.l (Cj E.l d) ⟨p,q,t,v⟩ s2 from ba.o);rw [N] at i;have r:=Hd f;have K:=Hd i;clear N f i;go_wp2_with fail;go_at_call 82;refine r.o.mono ?_;rintro e w8 ⟨rfl,g8,u,z⟩;have J:=Hd u;have L:=Hd z;clear C O c2 D F G H I;clear u z r;go_wp2_with fail;go_ret;rw [K.o];exact⟨rfl,_,J.o,B.o.trans L.o⟩
    ·have b5:(er != 0)=true:=by simpa using Q
     have hr:=Z.o;rw [if_pos (.inl Q)] at hr;have P:=Hd hr;clear hr Q;go_quiet (fail);go_wp2_with fail;go_ret;rw [P.o];exact⟨rfl,_,m.o.pure (below_drewN (Af _ _) _),B.o.below (below_drewN (Af _ _) _)⟩
def jN(l:List UInt8)(a x v:Int):Bool:=decide (Ml (Ht l a x)≤v)
def jM(l:List UInt8)(a x v:Int):Bool:=decide (Fq (loadU l a x)≤v)
structure Fe where
 bw:Nat
 A:Option Addr
 n:Nat
 c:Nat
 l:List UInt8
structure Jp(E:Fe)(w:World):Prop where
 hc:E.n≤E.c
 hn:E.n≤4294967296
 b:Ca w E.A E.n E.l
 c0:w.cell? ⟨E.bw,0,none⟩=some (.slice E.A E.n E.c)
theorem Jp.pure{E:Fe}(h:Jp E w)(hb:Below w.heap.size w w'):Jp E w':=⟨h.hc,h.hn,h.b.pure hb,Bg hb h.c0⟩
theorem Jp.drew{E:Fe}(h:Jp E w):Jp E w.drew:=h.pure ((Af _ _).drew)
theorem Jp.alloc{E:Fe}(h:Jp E w)(o:Obj):Jp E (w.alloc o):=h.pure ((Af _ _).alloc (Ae _) o)
theorem aJ(E:Fe)(a x v:Int)(r:Bool)(w:World)(h:Jp E w)(hr:jN E.l a x v=r):Calls Ad 90 #[Adm E.bw,Aa Ab a,Aa Ab x,Aa Ab v] w (Adh (.bool r) w):=by
 unfold jN at hr;have g:=mN E.A E.n E.c a x E.l w h.b h.hc (by have:=h.hn;omega);obtain⟨n,j⟩:∃n,Ht E.l a x=n:=⟨_,rfl⟩;have d:=U8 E.l a x;rw [j] at d hr g;obtain⟨k,f⟩:∃k,Ml n=k:=⟨_,rfl⟩;rw [f] at hr;have p:=Hd (fun W=>Zd n k W d f);have i:=Hd g;have q:=h.c0;clear h g j d f;go_enter func90,ntmps90;go_wp2_with fail;go_at_call 168;refine i.o.mono ?_;rintro e s ⟨rfl,d⟩;have m:=Hd d;clear d i q;go_wp2_with fail;go_at_call 35;refine(p.o _).mono ?_;rintro e w'' ⟨rfl,rfl⟩;go_wp2;go_ret;exact⟨rfl,m.o⟩
theorem eT(E:Fe)(a x v:Int)(r:Bool)(w:World)(h:Jp E w)(hr:jM E.l a x v=r):Calls Ad 91 #[Adm E.bw,Aa Ab a,Aa Ab x,Aa Ab v] w (Adh (.bool r) w):=by
 unfold jM at hr;have g:=Jc E.A E.n E.c a x E.l w h.b h.hc (by have:=h.hn;omega);obtain⟨n,j⟩:∃n,loadU E.l a x=n:=⟨_,rfl⟩;have d:=U9 E.l a x;rw [j] at d hr g;obtain⟨k,f⟩:∃k,Fq n=k:=⟨_,rfl⟩;rw [f] at hr;have p:=Hd (fun W=>Hm n k W (by omega) f);have i:=Hd g;have q:=h.c0;clear h g j d f;go_enter func91,ntmps91;go_wp2_with fail;go_at_call 149;refine i.o.mono ?_;rintro e s ⟨rfl,d⟩;have m:=Hd d;clear d i q;go_wp2_with fail;go_at_call 33;refine(p.o _).mono ?_;rintro e w'' ⟨rfl,rfl⟩;go_wp2;go_ret;exact⟨rfl,m.o⟩
def Cy(l:List UInt8)(p q t w pos v:Int):Bool:=
 if t=1 then jN l p q v else if t=2 then jM l p q v else if Bs t=true then true
 else decide (By l p q t w≤pos)&&decide (Fq (pos-By l p q t w).toNat≤v)
theorem Lw{B:Nat}{a:World}(h:Below B a w):Below B a w.drew:=h.drew
theorem wE(A:Option Addr)(n c:Nat)(p q t v a:Int)(l:List UInt8)(w:World)(hl:Ca w A n l)(hc:n≤c)(hn:n≤1099511627776)(h1:By l p q t v=a):
  Calls Ad 79 #[.slice A n c,.agg (Adl p q t v)] w (Adh (.tuple #[Aa Ab a,Aa Ab (B7 l p q t v)]) w):=by
 subst h1;exact Jz A n c p q t v l w hl hc (by omega)
theorem X3(l:List UInt8)(p q t v:Int):0≤By l p q t v∧By l p q t v≤l.length:=by
 by_cases g:B7 l p q t v=0
 ·exact Iv g
 ·unfold By;rw [if_neg g];omega
theorem S7(E:Fe)(p q t v pos f:Int)(r:Bool)(w:World)(h:Jp E w)(hp:pos≤1099511627776)(hr:Cy E.l p q t v pos f=r):
  Calls Ad 60 #[Adm E.bw,.agg (Adl p q t v),Aa Ab pos,Aa Ab f] w (Adh (.bool r) w):=by
 unfold Cy at hr;by_cases h1:t=1
 ·subst h1;rw [if_pos rfl] at hr;have d:=Hd (h.alloc (.cells (Adl p q 1 v) 70));have m:=Hd (Bh.new w 70 (Adl p q 1 v));have g:=Hd ((Af w.heap.size w).alloc (Ae _) (.cells (Adl p q 1 v) 70));have G:=h.hn;have D:=h.hc;clear h;have s:=d.o.c0;obtain ⟨x,y,z,B⟩:=m.o.c4;have I:=Hd hr;clear hr;go_enter func60,ntmps60;go_wp2_with fail;go_at_call 90;refine(aJ E p q f r _ d.o I.o).mono ?_;rintro e w' ⟨rfl,j⟩;replace g:=Hd (Ba g.o j);clear j;go_wp2;go_ret;exact⟨rfl,g.o⟩
 rw [if_neg h1] at hr;have Q:(t==1)=false:=beq_eq_false_iff_ne.mpr h1;by_cases h2:t=2
 ·subst h2;rw [if_pos rfl] at hr;have d:=Hd (h.alloc (.cells (Adl p q 2 v) 70));have m:=Hd (Bh.new w 70 (Adl p q 2 v));have g:=Hd ((Af w.heap.size w).alloc (Ae _) (.cells (Adl p q 2 v) 70));have G:=h.hn;have D:=h.hc;clear h;have s:=d.o.c0;obtain ⟨x,y,z,B⟩:=m.o.c4;have I:=Hd hr;clear hr h1 Q;go_enter func60,ntmps60;go_wp2_with fail;go_at_call 91;refine(eT E p q f r _ d.o I.o).mono ?_;rintro e w' ⟨rfl,j⟩;replace g:=Hd (Ba g.o j);clear j;go_wp2;go_ret;exact⟨rfl,g.o⟩
 rw [if_neg h2] at hr;have X:(t==2)=false:=beq_eq_false_iff_ne.mpr h2;have d:=Hd (h.alloc (.cells (Adl p q t v) 70));have m:=Hd (Bh.new w 70 (Adl p q t v));have g:=Hd ((Af w.heap.size w).alloc (Ae _) (.cells (Adl p q t v) 70));have G:=h.hn;have D:=h.hc;clear h;have s:=d.o.c0;obtain ⟨x,y,z,B⟩:=m.o.c4;clear h1 h2;obtain⟨i,K⟩:∃i,Bs t=i:=⟨_,rfl⟩;rw [K] at hr;have O:=Hd K;clear K;go_enter func60,ntmps60;go_wp2_with fail;go_at_call 78;refine(Oq t i _ O.o).mono ?_;rintro e Z ⟨rfl,j⟩;replace g:=Hd (Ba g.o j);replace d:=Hd (d.o.pure j);replace m:=Hd (m.o.pure j);clear s x y z B;clear j;have s:=d.o.c0;obtain ⟨x,y,z,B⟩:=m.o.c4;cases i with
 |true=>
  rw [if_pos rfl] at hr;subst hr;go_wp2;go_ret;exact⟨rfl,g.o⟩
 |false=>
  rw [if_neg (by decide)] at hr;have F:=X3 E.l p q t v;have M:=d.o.b.1;obtain⟨a,J⟩:∃a,By E.l p q t v=a:=⟨_,rfl⟩;rw [J] at hr F;have N:=Hd J;obtain⟨R,S⟩:=F;clear J;go_wp2_with fail;go_region_held3 (fun w'=>w'.cell? ⟨E.bw,0,none⟩=some (.slice E.A E.n E.c)∧(w'.cell? ⟨w.heap.size,0,none⟩=some (Aa Ab p)∧w'.cell? ⟨w.heap.size,1,none⟩=some (Aa Ab q)∧w'.cell? ⟨w.heap.size,2,none⟩=some (Aa Ab t)∧w'.cell? ⟨w.heap.size,3,none⟩=some (Aa Ab v))) (first|with_reducible exact⟨s,x,y,z,B⟩|with_reducible exact⟨Bi s,Bi x,Bi y,Bi z,Bi B⟩) (first|(go_at_call 79;(with_reducible refine(wE E.A E.n E.c p q t v a E.l _ d.o.drew.b D (by omega) N.o).mono ?_);rintro e w5 ⟨rfl,j⟩;replace g:=Hd (Ba (Lw g.o) j);replace d:=Hd (d.o.drew.pure j);replace m:=Hd (m.o.drew.pure j);clear s x y z B;clear j;have s:=d.o.c0;obtain ⟨x,y,z,B⟩:=m.o.c4));clear s x y z B;clear d m;by_cases C:a≤pos
  ·obtain⟨u,H⟩:∃u:Nat,pos-a=u:=⟨(pos-a).toNat,by omega⟩;rw [decide_eq_true C,Bool.true_and,H,Ao] at hr;have T:IntKind.i64.wrap (pos-a)=u:=by rw [H];exact Ag _ (by omega)
   have U:IntKind.u64.wrap (u:Int)=u:=by rw [IntKind.wrap_u64];omega
   obtain⟨k,L⟩:∃k,Fq u=k:=⟨_,rfl⟩;rw [L] at hr;have P:=Hd (fun W=>Hm u k W (by omega) L);have V:=Hd H;clear L H;go_wp2_with fail;go_at_call 33;refine(P.o _).mono ?_;rintro e w6 ⟨rfl,rfl⟩;go_wp2;go_ret;exact⟨rfl,g.o⟩
  ·rw [decide_eq_false C,Bool.false_and] at hr;subst hr;have Y:decide (a≤pos)=false:=decide_eq_false C;go_wp2;go_ret;exact⟨rfl,g.o⟩
theorem aK(A:Option Addr)(n c:Nat)(p q t v a x:Int)(l:List UInt8)(w:World)(hl:Ca w A n l)(hc:n≤c)(hn:n≤1099511627776)(h1:F6 l p q t v=a)(h2:G3 l p q t v=x):
  Calls Ad 151 #[.slice A n c,.agg (Adl p q t v)] w (Adh (.tuple #[Aa Ab a,Aa Ab x,Aa Ab (F7 l p q t v)]) w):=by
 subst h1 h2;exact Ui A n c p q t v l w hl hc (by omega)
def Sw(l:List UInt8)(p q t v f:Int):Bool:=decide (Fq (Dx l p q t v [4,5,25]).length≤f)
def bK(l:List UInt8)(p q t v f:Int):Bool:=jN l (F6 l p q t v) (G3 l p q t v) f
def Xq(l:List UInt8)(p q t v f:Int):Bool:=jM l (F6 l p q t v) (G3 l p q t v) f
theorem Yl(l:List UInt8)(p q t v:Int):(Dx l p q t v [4,5,25]).length≤l.length:=by
 by_cases h:C6 l p q t v [4,5,25]=0
 ·have h2:=(My h).2.1;have h1:=(My h).1;omega
 ·unfold Dx;rw [if_neg h];simp
theorem uU(E:Fe)(p q t v f:Int)(r:Bool)(w:World)(h:Jp E w)(hr:Sw E.l p q t v f=r):
  Calls Ad 169 #[Adm E.bw,.agg (Adl p q t v),Aa Ab f] w (Adh (.bool r) w):=by
 unfold Sw at hr;have i:=Yl E.l p q t v;obtain⟨m,F⟩:∃m,(Dx E.l p q t v [4,5,25]).length=m:=⟨_,rfl⟩;rw [F] at hr i;have B:=Hd (show((Dx E.l p q t v [4,5,25]).length:Int)=(m:Int) by rw [F]);clear F;have a:=Hd (h.alloc (.cells (Adl p q t v) 70));have d:=Hd (Bh.new w 70 (Adl p q t v));have z:=Hd ((Af w.heap.size w).alloc (Ae _) (.cells (Adl p q t v) 70));have I:=h.hn;have C:=h.hc;have G:=h.b.1;clear h;have g:=a.o.c0;obtain ⟨j,s,u,x⟩:=d.o.c4;obtain⟨k,D⟩:∃k,Fq m=k:=⟨_,rfl⟩;rw [D] at hr;have H:=Hd (fun W=>Hm m k W (by omega) D);have J:IntKind.u64.wrap (m:Int)=m:=by rw [IntKind.wrap_u64];omega
 clear D i;go_enter func169,ntmps169;go_wp2_with fail;go_region_held3 (fun w'=>w'.cell? ⟨E.bw,0,none⟩=some (.slice E.A E.n E.c)∧(w'.cell? ⟨w.heap.size,0,none⟩=some (Aa Ab p)∧w'.cell? ⟨w.heap.size,1,none⟩=some (Aa Ab q)∧w'.cell? ⟨w.heap.size,2,none⟩=some (Aa Ab t)∧w'.cell? ⟨w.heap.size,3,none⟩=some (Aa Ab v))) (first|with_reducible exact⟨g,j,s,u,x⟩|with_reducible exact⟨Bi g,Bi j,Bi s,Bi u,Bi x⟩) (first|(go_at_call 150;(with_reducible refine(aQ E.A E.n E.c p q t v _ m _ E.l _ a.o.drew.b C (by omega) rfl B.o rfl).mono ?_);rintro e K ⟨rfl,y⟩;replace z:=Hd (Ba (Lw z.o) y);replace a:=Hd (a.o.drew.pure y);replace d:=Hd (d.o.drew.pure y);clear g j s u x;clear y;have g:=a.o.c0;obtain ⟨j,s,u,x⟩:=d.o.c4));clear g j s u x;clear a d;go_wp2_with fail;go_at_call 33;refine(H.o _).mono ?_;rintro e L ⟨rfl,rfl⟩;go_wp2;go_ret;exact⟨rfl,z.o⟩
theorem yP(E:Fe)(p q t v f:Int)(r:Bool)(w:World)(h:Jp E w)(hr:bK E.l p q t v f=r):
  Calls Ad 170 #[Adm E.bw,.agg (Adl p q t v),Aa Ab f] w (Adh (.bool r) w):=by
 unfold bK at hr;obtain⟨a,B⟩:∃a,F6 E.l p q t v=a:=⟨_,rfl⟩;obtain⟨x,D⟩:∃a,G3 E.l p q t v=a:=⟨_,rfl⟩;rw [B,D] at hr;have G:=Hd B;have z:=Hd D;have H:=Hd hr;clear B D hr;have g:=Hd (h.alloc (.cells (Adl p q t v) 70));have j:=Hd (Bh.new w 70 (Adl p q t v));have i:=Hd ((Af w.heap.size w).alloc (Ae _) (.cells (Adl p q t v) 70));have I:=h.hn;have C:=h.hc;have F:=h.b.1;clear h;have k:=g.o.c0;obtain ⟨m,s,u,y⟩:=j.o.c4;go_enter func170,ntmps170;go_wp2_with fail;go_region_held3 (fun w'=>w'.cell? ⟨E.bw,0,none⟩=some (.slice E.A E.n E.c)∧(w'.cell? ⟨w.heap.size,0,none⟩=some (Aa Ab p)∧w'.cell? ⟨w.heap.size,1,none⟩=some (Aa Ab q)∧w'.cell? ⟨w.heap.size,2,none⟩=some (Aa Ab t)∧w'.cell? ⟨w.heap.size,3,none⟩=some (Aa Ab v))) (first|with_reducible exact⟨k,m,s,u,y⟩|with_reducible exact⟨Bi k,Bi m,Bi s,Bi u,Bi y⟩) (first|(go_at_call 151;(with_reducible refine(aK E.A E.n E.c p q t v a x E.l _ g.o.drew.b C (by omega) G.o z.o).mono ?_);rintro e J ⟨rfl,d⟩;replace i:=Hd (Ba (Lw i.o) d);replace g:=Hd (g.o.drew.pure d);replace j:=Hd (j.o.drew.pure d);clear k m s u y;clear d;have k:=g.o.c0;obtain ⟨m,s,u,y⟩:=j.o.c4));go_wp2_with fail;go_at_call 90;refine(aJ E a x f r _ g.o H.o).mono ?_;rintro e K ⟨rfl,d⟩;replace i:=Hd (Ba i.o d);clear d;go_wp2;go_ret;exact⟨rfl,i.o⟩
theorem uV(E:Fe)(p q t v f:Int)(r:Bool)(w:World)(h:Jp E w)(hr:Xq E.l p q t v f=r):
  Calls Ad 171 #[Adm E.bw,.agg (Adl p q t v),Aa Ab f] w (Adh (.bool r) w):=by
 unfold Xq at hr;obtain⟨a,B⟩:∃a,F6 E.l p q t v=a:=⟨_,rfl⟩;obtain⟨x,D⟩:∃a,G3 E.l p q t v=a:=⟨_,rfl⟩;rw [B,D] at hr;have G:=Hd B;have z:=Hd D;have H:=Hd hr;clear B D hr;have g:=Hd (h.alloc (.cells (Adl p q t v) 70));have j:=Hd (Bh.new w 70 (Adl p q t v));have i:=Hd ((Af w.heap.size w).alloc (Ae _) (.cells (Adl p q t v) 70));have I:=h.hn;have C:=h.hc;have F:=h.b.1;clear h;have k:=g.o.c0;obtain ⟨m,s,u,y⟩:=j.o.c4;go_enter func171,ntmps171;go_wp2_with fail;go_region_held3 (fun w'=>w'.cell? ⟨E.bw,0,none⟩=some (.slice E.A E.n E.c)∧(w'.cell? ⟨w.heap.size,0,none⟩=some (Aa Ab p)∧w'.cell? ⟨w.heap.size,1,none⟩=some (Aa Ab q)∧w'.cell? ⟨w.heap.size,2,none⟩=some (Aa Ab t)∧w'.cell? ⟨w.heap.size,3,none⟩=some (Aa Ab v))) (first|with_reducible exact⟨k,m,s,u,y⟩|with_reducible exact⟨Bi k,Bi m,Bi s,Bi u,Bi y⟩) (first|(go_at_call 151;(with_reducible refine(aK E.A E.n E.c p q t v a x E.l _ g.o.drew.b C (by omega) G.o z.o).mono ?_);rintro e J ⟨rfl,d⟩;replace i:=Hd (Ba (Lw i.o) d);replace g:=Hd (g.o.drew.pure d);replace j:=Hd (j.o.drew.pure d);clear k m s u y;clear d;have k:=g.o.c0;obtain ⟨m,s,u,y⟩:=j.o.c4));go_wp2_with fail;go_at_call 91;refine(eT E a x f r _ g.o H.o).mono ?_;rintro e K ⟨rfl,d⟩;replace i:=Hd (Ba i.o d);clear d;go_wp2;go_ret;exact⟨rfl,i.o⟩
end Go.Proofs.YtejpbijeifjdeaaGreat
