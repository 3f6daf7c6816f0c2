/- Parts of the proof. -/
import Derived.Test.YtejpbijeifjdeaaGreatQv22
import Derived.RangeFuncNested
import Derived.RangeFuncBound
import Derived.RangeFuncCalls
import Derived.RangeFuncLeaves
import Derived.Shelf.Abstract
import Derived.Shelf.RegionOpen
import Derived.OwnWalkIn
import Derived.TacticsInMore
import Derived.LoopNIn
import Derived.LoopIn
import Derived.Shelf.SlSortCmp.WholeK
import Derived.Shelf.SlicesG.Cmp
import Derived.Ground.SlsfProg
import Derived.Ground.SlgcProg
import Derived.Ground.NamesProg
set_option maxHeartbeats 4000000
set_option maxRecDepth 100000
open Go.Value renaming int→Aa
open Go.IntKind renaming i64→Ab
open Nat renaming le_refl→Ae
open Go.RowKit.Below renaming refl→Af
open Go.IntWalk renaming i64_in→Ag
open Int renaming toNat_natCast→Ao
open Go.Proofs.Tryz
open Go.Proofs.Tryz renaming prog→Ad
namespace Go.Proofs.YtejpbijeifjdeaaGreat
variable {l:List UInt8}{p q t v:Int}{i N:Nat}{go:Rq→Bj→Bj×Int}{r:Rq}{s st:Bj}{F:Bj×Int}{E:Ir}{g:Option Nat}{w:World}
section
open Go.RowKit Go.Acc
def uD(E:Ir)(go:Rq→Bj→Bj×Int)(r:Rq)(N:Nat)(F:Bj×Int)(b:Nat)(w0:World)(g:Option Nat)(s0:Bj)(u8 u10:Value)(wr:World):Prop:=
 ∃(i:Nat) (s:Bj) (e:Int) (g':Option Nat),u8= Aa Ab e∧u10= Aa Ab i∧i≤N∧E6 E g' s wr∧D8 E g g' w0 wr∧Iu E g' wr b 70 (Ab9 r.p r.q r.t r.v)∧
  (e=0→s.left≤s0.left∧s.size≤s0.size+1∧Du E.l go r (N-i) i s=F)∧(e≠0→F=(s,e))
theorem Uo(h:Cp l p q t v=0)(hi:i<lsLen l p q t v)(ha:Fz l p q t v i=0):K6 l.length (G0 l ⟨p,q,t,v⟩ i):=by
 obtain⟨h1,h2,_,a⟩:=Ml h;have b:i*v.toNat+v.toNat≤lsLen l p q t v*v.toNat:=by
  rw [←Nat.succ_mul];exact Nat.mul_le_mul_right _ hi
 have c:lsLen l p q t v*v.toNat≤lsLen l p q t v*(v.toNat+tgs t):=Nat.mul_le_mul_left _ (Nat.le_add_right _ _);unfold K6 G0 Q4 Q5;simp only [if_pos ha];generalize lsLen l p q t v*(v.toNat+tgs t)=X at*;generalize lsLen l p q t v*v.toNat=Y at*;rw [Ao];generalize i*v.toNat=Z at*;omega
theorem Aa3(h:Cp l p q t v=0):lsTo l p q t v=lsAt l p q t v+lsLen l p q t v*(v.toNat+tgs t):=by
 unfold lsTo lsAt lsLen;rw [if_pos h,if_pos h,if_pos h];rfl
theorem Pu{x:Rq}{y:Bj×Int}(h:Fz l r.p r.q r.t r.v i=0)(hst:D6 l r i s=st)(hat:G0 l r i=x)(hy:go x st=y)(hi:i<N)(hF:Du l go r (N-i) i s=F):
  (y.2=0→Du l go r (N-(i+1)) (i+1) y.1=F)∧(y.2≠0→F=(y.1,y.2)):=by
 obtain⟨k,b⟩:∃k,N-i=k+1:=⟨N-i-1,by omega⟩;have a:N-(i+1)=k:=by omega
 rw [b,Du,if_neg (by rw [h];decide),hst,hat,hy] at hF;rw [a];refine⟨fun h0=>?_,fun h0=>?_⟩
 ·rw [if_neg (by rw [h0];decide)] at hF;exact hF
 ·rw [if_pos h0] at hF;exact hF.symm
theorem Pt{ee:Int}(h:Fz l r.p r.q r.t r.v i=ee)(he:ee≠0)(hst:D6 l r i s=st)(hi:i<N)(hF:Du l go r (N-i) i s=F):F=(st,ee):=by
 obtain⟨k,hk⟩:∃k,N-i=k+1:=⟨N-i-1,by omega⟩;rw [hk,Du,if_pos (by rw [h];exact he),hst,h] at hF;exact hF.symm
theorem dU(E:Ir)(go:Rq→Bj→Bj×Int)(d:Nat)(hgo:Wf E go d)(hgoes:Pa go)(g:Option Nat)(s:Bj)(p q t v:Int)(w:World)(h:E6 E g s w)(hd:s.left.toNat<d)(hs:s.size≤899999993):
  Calls Ad 82 #[Aca E.bw,.agg (Ab9 p q t v)] w (Uj E g w (Db E.l go ⟨p,q,t,v⟩ s)):=by
 have k:=Hd (h.alloc (.cells (Ab9 p q t v) 70));have j:=Hd (h.lone 70 (Ab9 p q t v));have u:=Hd ((D8.refl E g w).alloc (.cells (Ab9 p q t v) 70));have bu:=Hd hgo;have bj:=Hd hgoes;obtain⟨f,hf⟩:∃f:Int,(lsFrom E.l p q t v:Int)=f:=⟨_,rfl⟩;obtain⟨a,ha⟩:∃a:Int,(lsAt E.l p q t v:Int)=a:=⟨_,rfl⟩;obtain⟨o,ho⟩:∃a:Int,(lsTo E.l p q t v:Int)=a:=⟨_,rfl⟩;obtain⟨N,hN⟩:∃N:Nat,lsLen E.l p q t v=N:=⟨_,rfl⟩;obtain⟨er,he⟩:∃a,Cp E.l p q t v=a:=⟨_,rfl⟩;have HF:=Hd hf;have Q:=Hd ha;have HO:=Hd ho;have HN:=Hd hN;have dd:=Hd (show(lsLen E.l p q t v:Int)=(N:Int) by rw [hN]);have X:=Hd he;have bm:=h.ok.hc;have eo:=h.ok.hn;have ea:=h.len;clear h hf ha ho hN he hgo hgoes;obtain⟨D,c1,c2,R⟩:=k.o.cells;have G:=Bg j.o.1;have H:=Bf j.o.1;have I:=Be j.o.1;have J:=Bh j.o.1;go_enter func82,ntmps82;go_wp2_with fail;go_region_held3 (fun w'=>w'.cell? ⟨E.bw,0,none⟩=some (.slice E.A E.n E.c)∧w'.cell? ⟨E.bw,3,none⟩=some (.func (.func 44) #[] #[Aca E.bl])∧(w'.cell? ⟨w.heap.size,0,none⟩=some (Aa Ab p)∧w'.cell? ⟨w.heap.size,1,none⟩=some (Aa Ab q)∧w'.cell? ⟨w.heap.size,2,none⟩=some (Aa Ab t)∧w'.cell? ⟨w.heap.size,3,none⟩=some (Aa Ab v))) (first|with_reducible exact⟨D,R,G,H,I,J⟩|with_reducible exact⟨Bk D,Bk R,Bk G,Bk H,Bk I,Bk J⟩) (first|(go_at_call 152;(with_reducible refine(sI E.A E.n E.c p q t v f a o er E.l _ k.o.drew.b bm (by omega) HF.o Q.o HO.o X.o).mono ?_);rintro e w1 ⟨rfl,K⟩;replace u:=Hd (u.o.drew.below K);replace k:=Hd (k.o.drew.pure K);replace j:=Hd (j.o.drew.pure K);clear D c1 c2 R G H I J;clear K;obtain⟨D,c1,c2,R⟩:=k.o.cells;have G:=Bg j.o.1;have H:=Bf j.o.1;have I:=Be j.o.1;have J:=Bh j.o.1));by_cases he:er=0
 ·subst he;obtain⟨eq,es,aq,b5⟩:=Ml X.o;have b8:=Aa3 X.o;obtain⟨V,rfl⟩:∃V:Nat,v=V:=⟨v.toNat,by omega⟩;rw [Ao,HN.o] at b5 b8;rw [Ao] at aq;have cj:N*V≤N*(V+tgs t):=Nat.mul_le_mul_left _ (Nat.le_add_right _ _);have cc:=Hd b5;have cg:=Hd b8;have de:=Hd cj;have eh:=Hd aq;clear b5 b8 cj aq;go_wp2_with fail;go_region_held3 (fun w'=>w'.cell? ⟨E.bw,0,none⟩=some (.slice E.A E.n E.c)∧w'.cell? ⟨E.bw,3,none⟩=some (.func (.func 44) #[] #[Aca E.bl])∧(w'.cell? ⟨w.heap.size,0,none⟩=some (Aa Ab p)∧w'.cell? ⟨w.heap.size,1,none⟩=some (Aa Ab q)∧w'.cell? ⟨w.heap.size,2,none⟩=some (Aa Ab t)∧w'.cell? ⟨w.heap.size,3,none⟩=some (Aa Ab V))) (first|with_reducible exact⟨D,R,G,H,I,J⟩|with_reducible exact⟨Bk D,Bk R,Bk G,Bk H,Bk I,Bk J⟩) (first|(go_at_call 153;(with_reducible refine(wG E.A E.n E.c p q t V N 0 E.l _ k.o.drew.b bm (by omega) dd.o X.o).mono ?_);rintro e w1 ⟨rfl,K⟩;replace u:=Hd (u.o.drew.below K);replace k:=Hd (k.o.drew.pure K);replace j:=Hd (j.o.drew.pure K);clear D c1 c2 R G H I J;clear K;obtain⟨D,c1,c2,R⟩:=k.o.cells;have G:=Bg j.o.1;have H:=Bf j.o.1;have I:=Be j.o.1;have J:=Bh j.o.1));obtain⟨y,hy⟩:∃y,Eg E.l go ⟨p,q,t,V⟩ s=y:=⟨_,rfl⟩;have HY:=Hd hy;clear hy;go_upto_if 42 with fail
  go_cut [8] (fun u8 wx=>∃wy,wy=wx∧u8= Aa Ab y.2∧∃g',E6 E g' y.1 wx∧D8 E g g' w wx∧Iu E g' wx w.heap.size 70 (Ab9 p q t V))
  case first=>
   by_cases h9:t=9
   ·subst h9;have hy:=HY.o;unfold Eg at hy;rw [if_pos rfl] at hy;have hk:=dT E go d bu.o bj.o g s p q 9 V f _ k.o hd (by omega) HF.o;rw [hy] at hk;have m:=Hd hk;clear hy hk;go_wp2_with fail;go_at_call 154;refine m.o.mono ?_;rintro e w2 ⟨rfl,g2,hC,hT⟩;have dc:=Hd hC;have cf:=Hd hT;clear hC hT m;go_wp2_with fail;go_meet;exact⟨_,rfl,rfl,g2,dc.o,u.o.trans cf.o,j.o.to cf.o⟩
   ·have hy:=HY.o;unfold Eg at hy;rw [if_neg h9] at hy;subst hy;have e9:(t==9)=false:=beq_eq_false_iff_ne.mpr h9;clear h9;go_wp2_with fail;go_meet;exact⟨_,rfl,rfl,g,k.o,u.o,j.o⟩
  case rest=>
  obtain⟨w2,rfl,rfl,g2,ci,cl,cn⟩:=hcut;have k:=Hd ci;have u:=Hd cl;have j:=Hd cn;clear ci cl cn;clear D c1 c2 R G H I J;obtain⟨D,c1,c2,R⟩:=k.o.cells;have G:=Bg j.o.1;have H:=Bf j.o.1;have I:=Be j.o.1;have J:=Bh j.o.1;go_upto_region 7 with fail
  go_cut [53] (fun u53 wx=>∃wy,wy=wx∧u53= .bool (decide (y.2=0∧f<a))∧wx=w2)
  case first=>
   clear D c1 c2 R G H I J;clear k u j;by_cases az:y.2=0
   ·have dt:(y.2==0)=true:=by simpa using az
    have dh:=Hd az;clear az;by_cases bo:f<a
    ·have HD:=Hd (show decide (y.2=0∧f<a)=true from decide_eq_true ⟨dh.o,bo⟩);go_wp2_with fail;go_meet;rw [HD.o];exact⟨_,rfl,rfl,rfl⟩
    ·have HD:=Hd (show decide (y.2=0∧f<a)=false from decide_eq_false fun h=>bo h.2);have en:decide (f<a)=false:=decide_eq_false bo;clear bo;go_wp2_with fail;go_meet;rw [HD.o];exact⟨_,rfl,rfl,rfl⟩
   ·have dt:(y.2==0)=false:=beq_eq_false_iff_ne.mpr az;have HD:=Hd (show decide (y.2=0∧f<a)=false from decide_eq_false fun h=>az h.1);clear az;go_wp2_with fail;go_meet;rw [HD.o];exact⟨_,rfl,rfl,rfl⟩
  case rest=>
  obtain⟨w2,rfl,rfl,rfl⟩:=hcut;obtain⟨z,U⟩:∃z,(if y.2=0 then Hl E.l ⟨p,q,t,V⟩ y.1 else y.1)=z:=⟨_,rfl⟩;have HZ:=Hd U;have B:=Nx (l:=E.l) ⟨p,q,t,V⟩ bj.o s;rw [HY.o] at B;have bf:=Tx (l:=E.l) ⟨p,q,t,V⟩ y.1;have b4:z.left≤s.left∧z.size≤s.size+1:=by
   subst U;split
   ·exact⟨Int.le_trans bf.1 B.1,by have:=bf.2;have:=B.2;omega⟩
   ·exact⟨B.1,by have:=B.2;omega⟩
  have eu:y.1.o.length≤899999993:=by have:=Dw y.1;have:=B.2;omega
  have du:=b4.1;have dv:=b4.2;clear U B bf b4;go_upto_if 53 with fail
  go_cut [] (fun wx=>∃wy,wy=wx∧∃g',E6 E g' z wx∧D8 E g g' w wx∧Iu E g' wx w.heap.size 70 (Ab9 p q t V))
  case first=>
   by_cases hc:y.2=0∧f<a
   ·have hd:decide (y.2=0∧f<a)=true:=decide_eq_true hc;rw [hd];have U:=HZ.o;rw [if_pos hc.1] at U;unfold Hl at U;rw [if_pos (by have h1:=HF.o;have h2:=Q.o;have:=hc.2;simp only;omega)] at U;have cs:y.1.tell (a-V) a 6=z:=by rw [←U];simp only [Q.o]
    replace HZ:=Hd cs;have dl:0≤a:=by have:=Q.o;omega
    have dm:a≤4294967296:=by have h1:=Q.o;have h2:=cc.o;omega
    have et:IntKind.i64.wrap (a-V)=a-V:=Ag _ (by omega);clear U cs hd hc;go_wp2_with fail;go_region_held3 (fun w'=>w'.cell? ⟨E.bw,0,none⟩=some (.slice E.A E.n E.c)∧w'.cell? ⟨E.bw,3,none⟩=some (.func (.func 44) #[] #[Aca E.bl])∧(w'.cell? ⟨w.heap.size,0,none⟩=some (Aa Ab p)∧w'.cell? ⟨w.heap.size,1,none⟩=some (Aa Ab q)∧w'.cell? ⟨w.heap.size,2,none⟩=some (Aa Ab t)∧w'.cell? ⟨w.heap.size,3,none⟩=some (Aa Ab V))) (first|with_reducible exact⟨D,R,G,H,I,J⟩|with_reducible exact⟨Bk D,Bk R,Bk G,Bk H,Bk I,Bk J⟩) (first|(go_at_call 44;(with_reducible refine(G3 (a-V) a 6 k.o.drew (by omega)).mono ?_);rintro e w3 ⟨rfl,g3,a9,aw⟩;replace u:=Hd (u.o.drew.trans aw);replace j:=Hd (j.o.drew.to aw);replace k:=Hd a9;clear D c1 c2 R G H I J;clear a9 aw;obtain⟨D,c1,c2,R⟩:=k.o.cells;have G:=Bg j.o.1;have H:=Bf j.o.1;have I:=Be j.o.1;have J:=Bh j.o.1));go_wp2_with fail;go_meet;rw [←HZ.o];exact⟨_,rfl,_,k.o,u.o,j.o⟩
   ·have hd:decide (y.2=0∧f<a)=false:=decide_eq_false hc;rw [hd];have U:=HZ.o;have e:z=y.1:=by
     subst U;split
     ·rename_i h0;unfold Hl;rw [if_neg];intro h;exact hc ⟨h0,by have h1:=HF.o;have h2:=Q.o;simp only at h;omega⟩
     ·rfl
    subst e;clear U hd hc;go_wp2_with fail;go_meet;exact⟨_,rfl,_,k.o,u.o,j.o⟩
  case rest=>
  obtain⟨w3,rfl,g3,a9,aw,co⟩:=hcut;obtain⟨F,hF⟩:∃F,(if y.2=0 then Du E.l go ⟨p,q,t,V⟩ N 0 z else y)=F:=⟨_,rfl⟩;have eg:=Hd hF;have hrel:uD E go ⟨p,q,t,V⟩ N F w.heap.size w g s (Aa Ab y.2) (Aa Ab 0) w3:=
   ⟨0,z,y.2,g3,rfl,rfl,Nat.zero_le _,a9,aw,co,fun h=>⟨du,dv,by rw [if_pos h] at hF;exact hF⟩,fun h=>by
    have U:=HZ.o;rw [if_neg h] at hF U;rw [←hF,←U]⟩
  have bp:=Hd hrel;have cq:Db E.l go ⟨p,q,t,V⟩ s=F:=by
   have U:=HZ.o;unfold Db;rw [if_neg (by rw [X.o];decide),HY.o];by_cases h:y.2=0
   ·rw [if_pos h] at hF U;rw [if_neg (by rw [h];decide),U,←hF];simp only [HN.o]
   ·rw [if_neg h] at hF;rw [if_pos h,hF]
  have cd:=Hd cq;have dg:=Hd (show(N:Int)*(V:Int)≤4294967296∧(0:Int)≤(N:Int)*(V:Int)∧0≤a∧a≤4294967296∧N≤4294967296 from by
   have h1:=cc.o;have h2:=de.o;have h3:=Q.o;have h5:((N*V:Nat):Int)=(N:Int)*(V:Int):=Int.natCast_mul _ _;have h6:N≤N*V:=Nat.le_mul_of_pos_right _ (by omega);refine⟨by omega,by omega,by omega,by omega,by omega⟩)
  clear hF hrel a9 aw co cq;clear D c1 c2 R G H I J;clear k j u;go_upto_region 9 with fail
  go_wp2_with fail;go_loopw [8,10] (fun u8 u10 wr=>uD E go ⟨p,q,t,V⟩ N F w.heap.size w g s u8 u10 wr) (fun _ u10 _=>N-(intOf u10).toNat)
  case atStart=>exact bp.o
  case round=>
   clear bp;obtain⟨i,s1,e1,g1,rfl,rfl,hi,ch,ck,cm,cr,b6⟩:=hrel;have k:=Hd ch;have u:=Hd ck;have j:=Hd cm;have bv:=Hd b6;have bx:=Hd cr;clear ch ck cm b6 cr;obtain⟨em,el,dl,dm,ek⟩:=dg.o;by_cases bn:e1=0
   ·subst bn;obtain⟨dq,ep,bb⟩:=bx.o rfl;by_cases ax:i<N
    ·have C:=Hd bb;clear bb bv bx;obtain⟨st,b7⟩:∃st,D6 E.l ⟨p,q,t,V⟩ i s1=st:=⟨_,rfl⟩;have au:=Ql (l:=E.l) ⟨p,q,t,V⟩ i s1;rw [b7] at au;have bq:st.left≤s.left:=Int.le_trans au.1 dq;have ed:st.size≤s.size+2:=by have:=au.2;omega
     have ec:s1.o.length≤899999999:=by have:=Dw s1;omega
     have Y:=Hd b7;clear b7 au;obtain⟨D,c1,c2,R⟩:=k.o.cells;have G:=Bg j.o.1;have H:=Bf j.o.1;have I:=Be j.o.1;have J:=Bh j.o.1;by_cases ay:Dk t=true
     ·have dn:decide (a+(N:Int)*(V:Int)<o)=true:=by
       apply decide_eq_true;have h1:=cg.o;have h2:=HO.o;have h3:=Q.o;have h4:tgs t=1:=if_pos ay;rw [h4,Nat.mul_add,Nat.mul_one] at h1;have h5:((N*V:Nat):Int)=(N:Int)*(V:Int):=Int.natCast_mul _ _;omega
      have e:s1.tell (a+(N:Int)*(V:Int)+(i:Int)) (a+(N:Int)*(V:Int)+(i:Int)+1) 8=st:=by
       rw [←Y.o];unfold D6;rw [if_pos ay];simp only [Q.o,HN.o]
      have HE:=Hd e;clear e ay;go_wp2_with (go_at_call 44;(with_reducible refine(G3 (a+(N:Int)*(V:Int)+(i:Int)) (a+(N:Int)*(V:Int)+(i:Int)+1) 8 k.o (by omega)).mono ?_);rintro e w4 ⟨rfl,g4,bz,b1⟩;rw [HE.o] at bz;replace u:=Hd (u.o.trans b1);replace j:=Hd (j.o.to b1);replace k:=Hd bz;clear D c1 c2 R G H I J;clear bz b1;obtain⟨D,c1,c2,R⟩:=k.o.cells;have G:=Bg j.o.1;have H:=Bf j.o.1;have I:=Be j.o.1;have J:=Bh j.o.1);go_upto_region 16 with fail
      obtain⟨a0,Z⟩:∃x,Q4 E.l p q t V i=x:=⟨_,rfl⟩;obtain⟨b0,aa⟩:∃x,Q5 E.l p q t V i=x:=⟨_,rfl⟩;obtain⟨d0,ab⟩:∃x,Sp E.l p q t V i=x:=⟨_,rfl⟩;obtain⟨g0,ae⟩:∃x,Sq E.l p q t V i=x:=⟨_,rfl⟩;obtain⟨ee,ad⟩:∃x,Fz E.l p q t V i=x:=⟨_,rfl⟩;have a1:=Hd Z;have a2:=Hd aa;have a3:=Hd ab;have a4:=Hd ae;have S:=Hd ad;clear Z aa ab ae ad;have M:=k.o.new;have bt:=Hd M;clear M;clear D c1 c2 R G H I J;go_cut [8] from 64 to 108 (fun u8 wx=>∃wy,wy=wx∧u8= Aa Ab ee∧Bb wx w4.heap.size 70 (Ab9 a0 b0 d0 g0)∧Below w4.heap.size w4 wx)
      case first=>
       have m:=Hd (Bb.new w4 70 (Ab9 0 0 0 0));have HQ:=Hd ((Af w4.heap.size w4).alloc (Ae _) (.cells (Ab9 0 0 0 0) 70));have HW:=Hd (k.o.W.alloc (.cells (Ab9 0 0 0 0) 70));have HR:=Hd (j.o.1.alloc (.cells (Ab9 0 0 0 0) 70));have HL:=Hd (k.o.b.alloc (.cells (Ab9 0 0 0 0) 70));have dr:E.bw≠w4.heap.size:=by have:=k.o.W.lt;omega
       have ds:w.heap.size≠w4.heap.size:=by have:=j.o.1.lt;omega
       clear k u j C Y;generalize w4.alloc (.cells (Ab9 0 0 0 0) 70)=wa at m HQ HW HR HL⊢;have D:_=some (Value.slice E.A E.n E.c):=HW.o.cell 0;obtain ⟨G,H,I,J⟩:=HR.o.c4;obtain ⟨q0,q1,q2,q3⟩:=m.o.c4;obtain ⟨p0,p1,p2,p3⟩:=m.o.f4;go_region_held3 (fun w'=>w'.cell? ⟨E.bw,0,none⟩=some (.slice E.A E.n E.c)∧(w'.cell? ⟨w.heap.size,0,none⟩=some (Aa Ab p)∧w'.cell? ⟨w.heap.size,1,none⟩=some (Aa Ab q)∧w'.cell? ⟨w.heap.size,2,none⟩=some (Aa Ab t)∧w'.cell? ⟨w.heap.size,3,none⟩=some (Aa Ab V))) ((with_reducible refine⟨?_,?_,?_,?_,?_⟩) <;>(repeat (first|with_reducible assumption|with_reducible refine Bw ?_|with_reducible refine Dj _ ?_|with_reducible refine Sg ?_ ?_)))
        (first|(go_at_call 155;(with_reducible refine(nT E.A E.n E.c p q t V i a0 b0 d0 g0 ee E.l _ (HL.o.pure (Af _ _).drew) bm (by omega) a1.o a2.o a3.o a4.o S.o).mono ?_);rintro e w5 ⟨rfl,hb⟩;replace HQ:=Hd (A6 HQ.o.drew hb);replace HW:=Hd (HW.o.drew.pure hb);replace HR:=Hd (HR.o.drew.pure hb);replace m:=Hd (m.o.drew.pure hb);clear hb D G H I J q0 q1 q2 q3 p0 p1 p2 p3;have D:_=some (Value.slice E.A E.n E.c):=HW.o.cell 0;obtain ⟨G,H,I,J⟩:=HR.o.c4;obtain ⟨q0,q1,q2,q3⟩:=m.o.c4;obtain ⟨p0,p1,p2⟩:=m.o.f3;have p3:=m.o.frozen 3))
       go_wp2_with fail;go_meet;exact⟨_,rfl,rfl,(((m.o.set_ 0 _).set_ 1 _).set_ 2 _).set_ 3 _,B9 _ HQ.o (Ae _) _ _ _ _⟩
      case rest=>
      obtain⟨w6,rfl,rfl,bd,T⟩:=hcut;have m:=Hd (show Iu E g4 w6 w4.heap.size 70 (Ab9 a0 b0 d0 g0) from⟨bd,bt.o⟩);replace k:=Hd (k.o.pure T);replace j:=Hd (j.o.pure T);replace u:=Hd (u.o.below T);clear bd T;by_cases O:ee=0
      ·subst O;have ap:=Uo X.o (by rw [HN.o];exact ax) S.o;have am:G0 E.l ⟨p,q,t,V⟩ i=⟨a0,b0,d0,g0⟩:=by unfold G0;simp only [a1.o,a2.o,a3.o,a4.o]
       rw [am] at ap;obtain⟨y2,ar⟩:∃y,go ⟨a0,b0,d0,g0⟩ st=y:=⟨_,rfl⟩;have P:=Pu (l:=E.l) (r:=⟨p,q,t,V⟩) S.o Y.o am ar ax C.o;have an:=bu.o _ st a0 b0 d0 g0 w6 k.o (by omega) (by omega) ap;have ao:=bj.o ⟨a0,b0,d0,g0⟩ st;rw [ar] at an ao;have a5:=Hd an;have a6:=Hd ao;have L:=Hd P;have k0:=Bg m.o.1;have k1:=Bf m.o.1;have k2:=Be m.o.1;have k3:=Bh m.o.1;clear ap am ar P an ao C;go_wp2_with fail;go_at_call 45;refine a5.o.mono ?_;rintro e w7 ⟨rfl,g7,ba,al⟩;replace u:=Hd (u.o.trans al);replace j:=Hd (j.o.to al);replace k:=Hd ba;clear m ba al a5 k0 k1 k2 k3;go_wp2_with fail;go_roundw
       case rel=>exact⟨i+1,y2.1,y2.2,g7,rfl,by go_num,by omega,k.o,u.o,j.o,fun h=>⟨Int.le_trans a6.o.1.1 bq,by have:=a6.o.2 h;omega,L.o.1 h⟩,L.o.2⟩
       case measure=>simp [intOf];omega
      ·have K:(ee==0)=false:=beq_eq_false_iff_ne.mpr O;have bs:=Hd (Pt (l:=E.l) (r:=⟨p,q,t,V⟩) S.o O Y.o ax C.o);have br:=Hd O;clear O C;go_wp2_with fail;go_roundw
       case rel=>exact⟨i+1,st,ee,_,rfl,by go_num,by omega,k.o,u.o,j.o,fun h=>absurd h br.o,fun _=>bs.o⟩
       case measure=>simp [intOf];omega
     ·have dn:decide (a+(N:Int)*(V:Int)<o)=false:=by
       apply decide_eq_false;have h1:=cg.o;have h2:=HO.o;have h3:=Q.o;have h4:tgs t=0:=if_neg ay;rw [h4,Nat.add_zero] at h1;have h5:((N*V:Nat):Int)=(N:Int)*(V:Int):=Int.natCast_mul _ _;omega
      have e:st=s1:=by
       rw [←Y.o];unfold D6;rw [if_neg ay]
      subst e;clear ay;go_upto_region 16 with fail
      obtain⟨a0,Z⟩:∃x,Q4 E.l p q t V i=x:=⟨_,rfl⟩;obtain⟨b0,aa⟩:∃x,Q5 E.l p q t V i=x:=⟨_,rfl⟩;obtain⟨d0,ab⟩:∃x,Sp E.l p q t V i=x:=⟨_,rfl⟩;obtain⟨g0,ae⟩:∃x,Sq E.l p q t V i=x:=⟨_,rfl⟩;obtain⟨ee,ad⟩:∃x,Fz E.l p q t V i=x:=⟨_,rfl⟩;have a1:=Hd Z;have a2:=Hd aa;have a3:=Hd ab;have a4:=Hd ae;have S:=Hd ad;clear Z aa ab ae ad;have M:=k.o.new;have bt:=Hd M;clear M;clear D c1 c2 R G H I J;go_cut [8] from 64 to 108 (fun u8 wx=>∃wy,wy=wx∧u8= Aa Ab ee∧Bb wx wr.heap.size 70 (Ab9 a0 b0 d0 g0)∧Below wr.heap.size wr wx)
      case first=>
       have m:=Hd (Bb.new wr 70 (Ab9 0 0 0 0));have HQ:=Hd ((Af wr.heap.size wr).alloc (Ae _) (.cells (Ab9 0 0 0 0) 70));have HW:=Hd (k.o.W.alloc (.cells (Ab9 0 0 0 0) 70));have HR:=Hd (j.o.1.alloc (.cells (Ab9 0 0 0 0) 70));have HL:=Hd (k.o.b.alloc (.cells (Ab9 0 0 0 0) 70));have dr:E.bw≠wr.heap.size:=by have:=k.o.W.lt;omega
       have ds:w.heap.size≠wr.heap.size:=by have:=j.o.1.lt;omega
       clear k u j C Y;generalize wr.alloc (.cells (Ab9 0 0 0 0) 70)=wa at m HQ HW HR HL⊢;have D:_=some (Value.slice E.A E.n E.c):=HW.o.cell 0;obtain ⟨G,H,I,J⟩:=HR.o.c4;obtain ⟨q0,q1,q2,q3⟩:=m.o.c4;obtain ⟨p0,p1,p2,p3⟩:=m.o.f4;go_region_held3 (fun w'=>w'.cell? ⟨E.bw,0,none⟩=some (.slice E.A E.n E.c)∧(w'.cell? ⟨w.heap.size,0,none⟩=some (Aa Ab p)∧w'.cell? ⟨w.heap.size,1,none⟩=some (Aa Ab q)∧w'.cell? ⟨w.heap.size,2,none⟩=some (Aa Ab t)∧w'.cell? ⟨w.heap.size,3,none⟩=some (Aa Ab V))) ((with_reducible refine⟨?_,?_,?_,?_,?_⟩) <;>(repeat (first|with_reducible assumption|with_reducible refine Bw ?_|with_reducible refine Dj _ ?_|with_reducible refine Sg ?_ ?_)))
        (first|(go_at_call 155;(with_reducible refine(nT E.A E.n E.c p q t V i a0 b0 d0 g0 ee E.l _ (HL.o.pure (Af _ _).drew) bm (by omega) a1.o a2.o a3.o a4.o S.o).mono ?_);rintro e w5 ⟨rfl,hb⟩;replace HQ:=Hd (A6 HQ.o.drew hb);replace HW:=Hd (HW.o.drew.pure hb);replace HR:=Hd (HR.o.drew.pure hb);replace m:=Hd (m.o.drew.pure hb);clear hb D G H I J q0 q1 q2 q3 p0 p1 p2 p3;have D:_=some (Value.slice E.A E.n E.c):=HW.o.cell 0;obtain ⟨G,H,I,J⟩:=HR.o.c4;obtain ⟨q0,q1,q2,q3⟩:=m.o.c4;obtain ⟨p0,p1,p2⟩:=m.o.f3;have p3:=m.o.frozen 3))
       go_wp2_with fail;go_meet;exact⟨_,rfl,rfl,(((m.o.set_ 0 _).set_ 1 _).set_ 2 _).set_ 3 _,B9 _ HQ.o (Ae _) _ _ _ _⟩
      case rest=>
      obtain⟨w6,rfl,rfl,bd,T⟩:=hcut;have m:=Hd (show Iu E g1 w6 wr.heap.size 70 (Ab9 a0 b0 d0 g0) from⟨bd,bt.o⟩);replace k:=Hd (k.o.pure T);replace j:=Hd (j.o.pure T);replace u:=Hd (u.o.below T);clear bd T;by_cases O:ee=0
      ·subst O;have ap:=Uo X.o (by rw [HN.o];exact ax) S.o;have am:G0 E.l ⟨p,q,t,V⟩ i=⟨a0,b0,d0,g0⟩:=by unfold G0;simp only [a1.o,a2.o,a3.o,a4.o]
       rw [am] at ap;obtain⟨y2,ar⟩:∃y,go ⟨a0,b0,d0,g0⟩ st=y:=⟨_,rfl⟩;have P:=Pu (l:=E.l) (r:=⟨p,q,t,V⟩) S.o Y.o am ar ax C.o;have an:=bu.o _ st a0 b0 d0 g0 w6 k.o (by omega) (by omega) ap;have ao:=bj.o ⟨a0,b0,d0,g0⟩ st;rw [ar] at an ao;have a5:=Hd an;have a6:=Hd ao;have L:=Hd P;have k0:=Bg m.o.1;have k1:=Bf m.o.1;have k2:=Be m.o.1;have k3:=Bh m.o.1;clear ap am ar P an ao C;go_wp2_with fail;go_at_call 45;refine a5.o.mono ?_;rintro e w7 ⟨rfl,g7,ba,al⟩;replace u:=Hd (u.o.trans al);replace j:=Hd (j.o.to al);replace k:=Hd ba;clear m ba al a5 k0 k1 k2 k3;go_wp2_with fail;go_roundw
       case rel=>exact⟨i+1,y2.1,y2.2,g7,rfl,by go_num,by omega,k.o,u.o,j.o,fun h=>⟨Int.le_trans a6.o.1.1 bq,by have:=a6.o.2 h;omega,L.o.1 h⟩,L.o.2⟩
       case measure=>simp [intOf];omega
      ·have K:(ee==0)=false:=beq_eq_false_iff_ne.mpr O;have bs:=Hd (Pt (l:=E.l) (r:=⟨p,q,t,V⟩) S.o O Y.o ax C.o);have br:=Hd O;clear O C;go_wp2_with fail;go_roundw
       case rel=>exact⟨i+1,st,ee,_,rfl,by go_num,by omega,k.o,u.o,j.o,fun h=>absurd h br.o,fun _=>bs.o⟩
       case measure=>simp [intOf];omega
    ·have cp:N-i=0:=by omega
     rw [cp] at bb;have C:=Hd (show F=(s1,0) from bb.symm);clear bb cp;go_wp2_with fail;go_ret;rw [cd.o,C.o];exact⟨rfl,_,k.o,u.o⟩
   ·have K:(e1==0)=false:=beq_eq_false_iff_ne.mpr bn;have C:=Hd (bv.o bn);clear bn bv bx;go_wp2_with fail
    all_goals
     go_ret;rw [cd.o,C.o];exact⟨rfl,_,k.o,u.o⟩
 ·have b6:(er != 0)=true:=by simpa using he
  have e:Db E.l go ⟨p,q,t,v⟩ s=(s,er):=by
   unfold Db;rw [X.o,if_pos he]
  have HR:=Hd e;clear e he;go_wp2_with fail;go_ret;rw [HR.o];exact⟨rfl,_,k.o,u.o⟩
theorem vA(h:E6 E g s w){x:Int}(hx:s.left-1=x):E6 E g s.burn (w.setCell ⟨E.bw,1,none⟩ (Aa Ab x))∧D8 E g g w (w.setCell ⟨E.bw,1,none⟩ (Aa Ab x)):=by
 subst hx;have c:Fr (fun k=>k=E.bw) w (w.setCell ⟨E.bw,1,none⟩ (Aa Ab (s.left-1))):=Fr.setCell (S:=fun k=>k=E.bw) (Fr.refl _ _) (fun _=>rfl) _;have a:=h.ok;refine⟨⟨a,h.b.fr c ?_,h.W.set_ 1 _,h.M.fr c a.mw,h.O.fr c a.lw ?_,Nat.le_trans h.sz c.size⟩,c.mono ?_,fun _ _ h=>h⟩
 ·intro f d e;have:=a.hA f d;have:=a.w0;omega
 ·intro k j e;have:=(h.O.row k j).1;have:=a.w2;omega
 ·rintro k _ rfl i;exact i.2.2.1 rfl
theorem Aaa{w':World}(h:E6 E g s w)(x:P3)(hM:K4 w' E.bm (s.had++ [x]))(hf:Fr (fun k=>k=E.bm) w w'):E6 E g (s.see x) w'∧D8 E g g w w':=by
 have a:=h.ok;refine⟨⟨a,h.b.fr hf ?_,h.W.fr hf (Ne.symm a.mw),hM,h.O.fr hf a.lm ?_,Nat.le_trans h.sz hf.size⟩,hf.mono ?_,fun _ _ h=>h⟩
 ·intro d c e;have:=a.hA d c;have:=a.m0;omega
 ·intro k i e;have:=(h.O.row k i).1;have:=a.m2;omega
 ·rintro k _ rfl f;exact f.2.1 rfl
theorem pZ(A:Option Addr)(n c:Nat)(p q t v a er:Int)(l:List UInt8)(w:World)(hl:B4 w A n l)(hc:n≤c)(hn:n≤1099511627776)(h1:By l p q t v=a)(h2:B8 l p q t v=er):
  Calls Ad 79 #[.slice A n c,.agg (Ab9 p q t v)] w (Ab5 (.tuple #[Aa Ab a,Aa Ab er]) w):=by
 subst h1 h2;exact Lm A n c p q t v l w hl hc (by omega)
theorem Yb(t:Int)(b:Bool)(w:World)(h:Bt t=b):Calls Ad 78 #[Aa Ab t] w (Ab5 (.bool b) w):=by
 subst h;exact Cm t w
theorem Uu(E:Ir):∀d,Wf E (Ca E.l d) d
 |0=>fun g s p q t v w h hd hs hr=>absurd hd (Nat.not_lt_zero _)
 |d+1=>fun g s p q t v w h hd hs hr=>by
  have ih:=Uu E d;have bb:=Hd ih;have m:=Hd (h.alloc (.cells (Ab9 p q t v) 70));have j:=Hd (h.lone 70 (Ab9 p q t v));have B:=Hd ((D8.refl E g w).alloc (.cells (Ab9 p q t v) 70));have bi:=h.ok.hc;have b6:=h.ok.hn;have bx:=h.len;obtain⟨bk,bo,bp,bn⟩:=hr;simp only at bk bo bp bn;clear ih h;have ak:8*s.left.toNat≤900000000:=by unfold Bj.size at hs;omega
  obtain⟨C,O,c2,D⟩:=m.o.cells;have F:=Bg j.o.1;have G:=Bf j.o.1;have H:=Be j.o.1;have I:=Bh j.o.1;by_cases hl:s.left<1
  ·have hR:Ca E.l (d+1) ⟨p,q,t,v⟩ s=(s,260):=by unfold Ca;rw [if_pos hl]
   have P:=Hd hR;clear hR;go_enter func45,ntmps45;go_wp2_with fail;go_ret;rw [P.o];exact⟨rfl,_,m.o,B.o⟩
  ·have br:IntKind.i64.wrap (s.left-1)=s.left-1:=Ag _ (by omega);have b7:IntKind.i64.wrap (p+q)=p+q:=Ag _ (by omega);have bq:s.burn.size+8=s.size:=by unfold Bj.size Bj.burn;simp only;omega
   have a4:=N5 s.burn p (p+q) (Ej t);have U:=E0 s.burn p (p+q) (Ej t);have HL:=Hd (show 1≤s.left by omega);have f1:=m.o.W.frozen 1;have az:=vA m.o (x:=s.left-1) rfl;have V:=Hd az;clear az;go_enter func45,ntmps45;go_upto_region 4 with fail
   replace m:=Hd V.o.1;replace j:=Hd (j.o.to V.o.2);replace B:=Hd (B.o.trans V.o.2);clear V f1;generalize (w.alloc (.cells (Ab9 p q t v) 70)).setCell ⟨E.bw,1,none⟩ (Aa Ab (s.left-1))=w1 at m j B⊢;clear C O c2 D F G H I;obtain⟨C,O,c2,D⟩:=m.o.cells;have F:=Bg j.o.1;have G:=Bf j.o.1;have H:=Be j.o.1;have I:=Bh j.o.1;go_region_held3 (fun w'=>w'.cell? ⟨E.bw,0,none⟩=some (.slice E.A E.n E.c)∧w'.cell? ⟨E.bw,3,none⟩=some (.func (.func 44) #[] #[Aca E.bl])∧(w'.cell? ⟨w.heap.size,0,none⟩=some (Aa Ab p)∧w'.cell? ⟨w.heap.size,1,none⟩=some (Aa Ab q)∧w'.cell? ⟨w.heap.size,2,none⟩=some (Aa Ab t)∧w'.cell? ⟨w.heap.size,3,none⟩=some (Aa Ab v))) (first|with_reducible exact⟨C,D,F,G,H,I⟩|with_reducible exact⟨Bk C,Bk D,Bk F,Bk G,Bk H,Bk I⟩) (first|(go_at_call 77;(with_reducible refine(sU t _).mono ?_);rintro e w2 ⟨rfl,hb⟩;replace B:=Hd (B.o.drew.below hb);replace m:=Hd (m.o.drew.pure hb);replace j:=Hd (j.o.drew.pure hb);clear C O c2 D F G H I;clear hb;obtain⟨C,O,c2,D⟩:=m.o.cells;have F:=Bg j.o.1;have G:=Bf j.o.1;have H:=Be j.o.1;have I:=Bh j.o.1)|(go_at_call 44;(with_reducible refine(G3 p (p+q) (Ej t) m.o (by have:=Dw s.burn;omega)).mono ?_);rintro e w3 ⟨rfl,g3,av,ah⟩;replace B:=Hd (B.o.trans ah);replace j:=Hd (j.o.to ah);replace m:=Hd av;clear C O c2 D F G H I;clear av ah;obtain⟨C,O,c2,D⟩:=m.o.cells;have F:=Bg j.o.1;have G:=Bf j.o.1;have H:=Be j.o.1;have I:=Bh j.o.1));obtain⟨s1,aa⟩:∃s1,s.burn.tell p (p+q) (Ej t)=s1:=⟨_,rfl⟩;rw [aa] at a4 U;have a3:Cw ⟨p,q,t,v⟩ s=s1:=aa;have ad:s1.left.toNat<d:=by rw [U];unfold Bj.burn;simp only;omega
   have ae:s1.size≤899999993:=by omega
   replace m:=Hd (aa▸m.o);have Y:=Hd a3;clear aa a4 U a3 hl bq br hs hd ak;go_wp2_with fail;go_at_call 78;by_cases hi:Bt t=true
   ·refine(Yb t true _ hi).mono ?_;rintro e w4 ⟨rfl,hb⟩;replace B:=Hd (B.o.below hb);replace m:=Hd (m.o.pure hb);replace j:=Hd (j.o.pure hb);clear C O c2 D F G H I;clear hb;obtain⟨C,O,c2,D⟩:=m.o.cells;have F:=Bg j.o.1;have G:=Bf j.o.1;have H:=Be j.o.1;have I:=Bh j.o.1;have hR:Ca E.l (d+1) ⟨p,q,t,v⟩ s=(s1,0):=by unfold Ca;rw [if_neg (Int.not_lt.mpr HL.o),if_pos hi,Y.o]
    have P:=Hd hR;clear hR hi;go_wp2_with fail;go_ret;rw [P.o];exact⟨rfl,_,m.o,B.o⟩
   ·have a0:Bt t=false:=by simpa using hi
    refine(Yb t false _ a0).mono ?_;rintro e w4 ⟨rfl,hb⟩;replace B:=Hd (B.o.below hb);replace m:=Hd (m.o.pure hb);replace j:=Hd (j.o.pure hb);clear C O c2 D F G H I;clear hb;obtain⟨C,O,c2,D⟩:=m.o.cells;have F:=Bg j.o.1;have G:=Bf j.o.1;have H:=Be j.o.1;have I:=Bh j.o.1;have HI:=Hd hi;clear hi a0;obtain⟨a,ha⟩:∃a,By E.l p q t v=a:=⟨_,rfl⟩;obtain⟨er,Q⟩:∃a,B8 E.l p q t v=a:=⟨_,rfl⟩;have HA:=Hd ha;have af:=Hd Q;clear ha Q;go_wp2_with fail;go_region_held3 (fun w'=>w'.cell? ⟨E.bw,0,none⟩=some (.slice E.A E.n E.c)∧w'.cell? ⟨E.bw,3,none⟩=some (.func (.func 44) #[] #[Aca E.bl])∧(w'.cell? ⟨w.heap.size,0,none⟩=some (Aa Ab p)∧w'.cell? ⟨w.heap.size,1,none⟩=some (Aa Ab q)∧w'.cell? ⟨w.heap.size,2,none⟩=some (Aa Ab t)∧w'.cell? ⟨w.heap.size,3,none⟩=some (Aa Ab v))) (first|with_reducible exact⟨C,D,F,G,H,I⟩|with_reducible exact⟨Bk C,Bk D,Bk F,Bk G,Bk H,Bk I⟩) (first|(go_at_call 79;(with_reducible refine(pZ E.A E.n E.c p q t v a er E.l _ m.o.drew.b bi (by omega) HA.o af.o).mono ?_);rintro e R ⟨rfl,hb⟩;replace B:=Hd (B.o.drew.below hb);replace m:=Hd (m.o.drew.pure hb);replace j:=Hd (j.o.drew.pure hb);clear C O c2 D F G H I;clear hb;obtain⟨C,O,c2,D⟩:=m.o.cells;have F:=Bg j.o.1;have G:=Bf j.o.1;have H:=Be j.o.1;have I:=Bh j.o.1));go_upto_region 9 with fail
    have HY:=Hd (Bb.new R 115 #[Aa Ab a,Aa Ab t,Aa Ab v]);replace m:=Hd (m.o.alloc (.cells #[Aa Ab a,Aa Ab t,Aa Ab v] 115));replace j:=Hd (j.o.pure ((Af _ _).alloc (Ae _) (.cells #[Aa Ab a,Aa Ab t,Aa Ab v] 115)));replace B:=Hd (B.o.alloc (.cells #[Aa Ab a,Aa Ab t,Aa Ab v] 115));have a2:F7 E.l ⟨p,q,t,v⟩=(a,t,v):=by unfold F7;simp only [HA.o]
    have a6:Ca E.l (d+1) ⟨p,q,t,v⟩ s=if er≠0∨(a,t,v)∈s1.had then(s1,er) else Da E.l (Ca E.l d) ⟨p,q,t,v⟩ (s1.see (a,t,v)):=by
     unfold Ca;rw [if_neg (Int.not_lt.mpr HL.o),if_neg HI.o,Y.o,a2,af.o];have:s1.had=s.had:=by rw [←Y.o];exact Ia _ _ _ _
     rw [this]
    have Z:=Hd a6;clear a2 a6;clear C O c2 D F G H I;generalize R.alloc (.cells #[Aa Ab a,Aa Ab t,Aa Ab v] 115)=w6 at m j B HY⊢;obtain⟨C,O,c2,D⟩:=m.o.cells;have F:=Bg j.o.1;have G:=Bf j.o.1;have H:=Be j.o.1;have I:=Bh j.o.1;obtain ⟨y0,y1,y2⟩:=HY.o.c3;by_cases Q:er=0
    ·subst Q;by_cases hm:(a,t,v)∈s1.had
     ·have a1:(Instr.lookup 74 (.map (some E.bm)) (.agg #[Aa Ab a,Aa Ab t,Aa Ab v]) false).run Ad w6.drew= .ok (.bool true) w6.drew:=by
       have:=Yv underlying74 underlying115 Xg Xf Yx E.bm s1.had (a,t,v) w6.drew m.o.drew.M;rw [decide_eq_true hm] at this;exact this
      have hr:=Z.o;rw [if_pos (.inr hm)] at hr;have P:=Hd hr;clear hr hm;go_region_held3 (fun w'=>w'.cell? ⟨E.bw,2,none⟩=some (.map (some E.bm))∧(w'.cell? ⟨R.heap.size,0,none⟩=some (Aa Ab a)∧w'.cell? ⟨R.heap.size,1,none⟩=some (Aa Ab t)∧w'.cell? ⟨R.heap.size,2,none⟩=some (Aa Ab v))) (first|with_reducible exact⟨c2,y0,y1,y2⟩|with_reducible exact⟨Bk c2,Bk y0,Bk y1,Bk y2⟩) (fail);go_wp2_with fail;go_ret;rw [P.o];exact⟨rfl,_,m.o.drew,B.o.drew⟩
     ·have a1:(Instr.lookup 74 (.map (some E.bm)) (.agg #[Aa Ab a,Aa Ab t,Aa Ab v]) false).run Ad w6.drew= .ok (.bool false) w6.drew:=by
       have:=Yv underlying74 underlying115 Xg Xf Yx E.bm s1.had (a,t,v) w6.drew m.o.drew.M;rw [decide_eq_false hm] at this;exact this
      have hr:=Z.o;rw [if_neg (by simp [hm])] at hr;have P:=Hd hr;obtain⟨w7,T,ax,aj,a5⟩:=tH underlying74 underlying115 Xg Xf E.bm s1.had (a,t,v) w6.drew.drew m.o.drew.drew.M hm;obtain⟨aw,ai⟩:=Aaa m.o.drew.drew (a,t,v) ax aj;have X:=Hd aw;have ao:=Hd (j.o.drew.drew.to ai);have an:=Hd (B.o.drew.drew.trans ai);replace T:(Instr.mapUpdate 74 (.map (some E.bm)) (.agg #[.int .i64 a,.int .i64 t,.int .i64 v]) (.bool true)).run Ad w6.drew.drew= .ok () w7:=T;have d2:=X.o.cells.2.2.1;have a7:R.heap.size≠E.bm:=by
       have:=HY.o;have h2:=m.o.M;rintro e;obtain⟨es,k,hb,_⟩:=h2;rw [←e] at hb;unfold Bb at this;rw [this] at hb;cases hb
      have aq:=Hd (HY.o.drew.drew.fr aj a7);obtain ⟨z0,z1,z2⟩:=aq.o.c3;clear hr hm ax aj a5 aw ai a7 Z Y HL HA af HI;go_region_held3 (fun w'=>w'.cell? ⟨E.bw,2,none⟩=some (.map (some E.bm))∧(w'.cell? ⟨R.heap.size,0,none⟩=some (Aa Ab a)∧w'.cell? ⟨R.heap.size,1,none⟩=some (Aa Ab t)∧w'.cell? ⟨R.heap.size,2,none⟩=some (Aa Ab v))) (first|with_reducible exact⟨c2,y0,y1,y2⟩|with_reducible exact⟨Bk c2,Bk y0,Bk y1,Bk y2⟩) (fail);go_wp2_with fail;go_region_held3 (fun w'=>w'.cell? ⟨E.bw,2,none⟩=some (.map (some E.bm))∧(w'.cell? ⟨R.heap.size,0,none⟩=some (Aa Ab a)∧w'.cell? ⟨R.heap.size,1,none⟩=some (Aa Ab t)∧w'.cell? ⟨R.heap.size,2,none⟩=some (Aa Ab v))) (first|with_reducible exact⟨c2,y0,y1,y2⟩|with_reducible exact⟨Bk c2,Bk y0,Bk y1,Bk y2⟩|with_reducible exact⟨Bk (Bk c2),Bk (Bk y0),Bk (Bk y1),Bk (Bk y2)⟩|with_reducible exact⟨d2,z0,z1,z2⟩) (fail);obtain⟨s2,ab⟩:∃s2,s1.see (a,t,v)=s2:=⟨_,rfl⟩;have bj:s2.left.toNat<d:=by subst ab;exact ad
      have b8:s2.size≤899999993:=by subst ab;exact ae
      rw [ab] at X P;clear ab a1 T d2 z0 z1 z2 y0 y1 y2 HY aq ad ae;clear C O c2 D F G H I;clear m j B;have m:=X;have j:=ao;have B:=an;clear X ao an;obtain⟨C,O,c2,D⟩:=m.o.cells;have F:=Bg j.o.1;have G:=Bf j.o.1;have H:=Be j.o.1;have I:=Bh j.o.1;by_cases h4:t=4
      ·subst h4;obtain⟨y,N⟩:∃y,Cn E.l ⟨p,q,4,v⟩ s2=y:=⟨_,rfl⟩;have f:=Ob E _ s2 p q 4 v _ m.o (by have:=Dw s2;omega);rw [N] at f;have i:=P.o.trans (show Da E.l (Ca E.l d) ⟨p,q,4,v⟩ s2=Cn E.l ⟨p,q,4,v⟩ s2 from rfl);rw [N] at i;have r:=Hd f;have K:=Hd i;clear N f i;go_wp2_with fail;go_at_call 80;refine r.o.mono ?_;rintro e w8 ⟨rfl,g8,u,z⟩;have J:=Hd u;have L:=Hd z;clear C O c2 D F G H I;clear u z r;go_wp2_with fail;go_ret;rw [K.o];exact⟨rfl,_,J.o,B.o.trans L.o⟩
      have e4:(t==4)=false:=beq_eq_false_iff_ne.mpr h4;by_cases h5:t=5
      ·subst h5;obtain⟨y,N⟩:∃y,Cn E.l ⟨p,q,5,v⟩ s2=y:=⟨_,rfl⟩;have f:=Ob E _ s2 p q 5 v _ m.o (by have:=Dw s2;omega);rw [N] at f;have i:=P.o.trans (show Da E.l (Ca E.l d) ⟨p,q,5,v⟩ s2=Cn E.l ⟨p,q,5,v⟩ s2 from rfl);rw [N] at i;have r:=Hd f;have K:=Hd i;clear N f i;go_wp2_with fail;go_at_call 80;refine r.o.mono ?_;rintro e w8 ⟨rfl,g8,u,z⟩;have J:=Hd u;have L:=Hd z;clear C O c2 D F G H I;clear u z r;go_wp2_with fail;go_ret;rw [K.o];exact⟨rfl,_,J.o,B.o.trans L.o⟩
      have e5:(t==5)=false:=beq_eq_false_iff_ne.mpr h5;by_cases ag:t=25
      ·subst ag;obtain⟨y,N⟩:∃y,Cn E.l ⟨p,q,25,v⟩ s2=y:=⟨_,rfl⟩;have f:=Ob E _ s2 p q 25 v _ m.o (by have:=Dw s2;omega);rw [N] at f;have i:=P.o.trans (show Da E.l (Ca E.l d) ⟨p,q,25,v⟩ s2=Cn E.l ⟨p,q,25,v⟩ s2 from rfl);rw [N] at i;have r:=Hd f;have K:=Hd i;clear N f i;go_wp2_with fail;go_at_call 80;refine r.o.mono ?_;rintro e w8 ⟨rfl,g8,u,z⟩;have J:=Hd u;have L:=Hd z;clear C O c2 D F G H I;clear u z r;go_wp2_with fail;go_ret;rw [K.o];exact⟨rfl,_,J.o,B.o.trans L.o⟩
      have b3:(t==25)=false:=beq_eq_false_iff_ne.mpr ag;by_cases h6:t=6
      ·subst h6;obtain⟨y,N⟩:∃y,Ct E.l ⟨p,q,6,v⟩ s2=y:=⟨_,rfl⟩;have f:=Re E _ s2 p q 6 v _ m.o (by have:=Dw s2;omega);rw [N] at f;have i:=P.o.trans (show Da E.l (Ca E.l d) ⟨p,q,6,v⟩ s2=Ct E.l ⟨p,q,6,v⟩ s2 from rfl);rw [N] at i;have r:=Hd f;have K:=Hd i;clear N f i;go_wp2_with fail;go_at_call 81;refine r.o.mono ?_;rintro e w8 ⟨rfl,g8,u,z⟩;have J:=Hd u;have L:=Hd z;clear C O c2 D F G H I;clear u z r;go_wp2_with fail;go_ret;rw [K.o];exact⟨rfl,_,J.o,B.o.trans L.o⟩
      have e6:(t==6)=false:=beq_eq_false_iff_ne.mpr h6;by_cases h7:t=7
      ·subst h7;obtain⟨y,N⟩:∃y,Ct E.l ⟨p,q,7,v⟩ s2=y:=⟨_,rfl⟩;have f:=Re E _ s2 p q 7 v _ m.o (by have:=Dw s2;omega);rw [N] at f;have i:=P.o.trans (show Da E.l (Ca E.l d) ⟨p,q,7,v⟩ s2=Ct E.l ⟨p,q,7,v⟩ s2 from rfl);rw [N] at i;have r:=Hd f;have K:=Hd i;clear N f i;go_wp2_with fail;go_at_call 81;refine r.o.mono ?_;rintro e w8 ⟨rfl,g8,u,z⟩;have J:=Hd u;have L:=Hd z;clear C O c2 D F G H I;clear u z r;go_wp2_with fail;go_ret;rw [K.o];exact⟨rfl,_,J.o,B.o.trans L.o⟩
      have e7:(t==7)=false:=beq_eq_false_iff_ne.mpr h7;have S:Da E.l (Ca E.l d) ⟨p,q,t,v⟩ s2=Db E.l (Ca E.l d) ⟨p,q,t,v⟩ s2:=by
       unfold Da;rw [if_neg (by simp [Kr];omega),if_neg (by simp only;omega)]
      have ba:=Hd S;clear S h4 h5 ag h6 h7;obtain⟨y,N⟩:∃y,Db E.l (Ca E.l d) ⟨p,q,t,v⟩ s2=y:=⟨_,rfl⟩;have f:=dU E _ d bb.o (Ns E.l d) _ s2 p q t v _ m.o bj (by omega);rw [N] at f;have i:=P.o.trans (show Da E.l (Ca E.l d) ⟨p,q,t,v⟩ s2=Db E.l (Ca E.l d) ⟨p,q,t,v⟩ s2 from ba.o);rw [N] at i;have r:=Hd f;have K:=Hd i;clear N f i;go_wp2_with fail;go_at_call 82;refine r.o.mono ?_;rintro e w8 ⟨rfl,g8,u,z⟩;have J:=Hd u;have L:=Hd z;clear C O c2 D F G H I;clear u z r;go_wp2_with fail;go_ret;rw [K.o];exact⟨rfl,_,J.o,B.o.trans L.o⟩
    ·have b5:(er != 0)=true:=by simpa using Q
     have hr:=Z.o;rw [if_pos (.inl Q)] at hr;have P:=Hd hr;clear hr Q;go_quiet (fail);go_wp2_with fail;go_ret;rw [P.o];exact⟨rfl,_,m.o.pure (below_drewN (Af _ _) _),B.o.below (below_drewN (Af _ _) _)⟩
attribute [local go_sem] Oper.semAt_some
attribute [local go_sem] Oper.semAt_some
attribute [local go_sem] Oper.semAt_some
end
section
open Go.Shelf Go.RowKit Go.Lib Go.Acc
def dC:Go.Shelf.Ren:=⟨fun|6=>83|15=>157|14=>156|28=>261|29=>66|20=>253|21=>254|22=>255|23=>256|24=>257|25=>258|26=>259|27=>260|46=>313|47=>314|48=>315|49=>316|50=>317|57=>350|n=>n,fun|22=>42|24=>46|25=>81|3=>3|39=>103|0=>0|53=>296|55=>26|4=>4|46=>290|45=>289|50=>183|5=>5|9=>9|66=>327|70=>331|76=>358|77=>297|n=>n,fun|n=>n⟩
theorem tK:Go.Proofs.SlLaysF0.n6 Ad dC:={
 mixed:=by kernel_rfl
 f6:=⟨Tryz.f83.name,by decide,func83.trans (congrArg some (by kernel_rfl))⟩
 f14:=⟨Tryz.f156.name,by decide,func156.trans (congrArg some (by kernel_rfl))⟩
 f15:=func157.trans (congrArg some (by kernel_rfl))
 f20:=⟨Tryz.f253.name,by decide,func253.trans (congrArg some (by kernel_rfl))⟩
 f21:=⟨Tryz.f254.name,by decide,func254.trans (congrArg some (by kernel_rfl))⟩
 f22:=⟨Tryz.f255.name,by decide,func255.trans (congrArg some (by kernel_rfl))⟩
 f23:=⟨Tryz.f256.name,by decide,func256.trans (congrArg some (by kernel_rfl))⟩
 f24:=⟨Tryz.f257.name,by decide,func257.trans (congrArg some (by kernel_rfl))⟩
 f25:=⟨Tryz.f258.name,by decide,func258.trans (congrArg some (by kernel_rfl))⟩
 f26:=⟨Tryz.f259.name,by decide,func259.trans (congrArg some (by kernel_rfl))⟩
 f27:=⟨Tryz.f260.name,by decide,func260.trans (congrArg some (by kernel_rfl))⟩
 f28:=func261.trans (congrArg some (by kernel_rfl))
 f29:=func66.trans (congrArg some (by kernel_rfl))
 f46:=⟨Tryz.f313.name,by decide,func313.trans (congrArg some (by kernel_rfl))⟩
 f47:=func314.trans (congrArg some (by kernel_rfl))
 f48:=func315.trans (congrArg some (by kernel_rfl))
 f49:=⟨Tryz.f316.name,by decide,func316.trans (congrArg some (by kernel_rfl))⟩
 f50:=⟨Tryz.f317.name,by decide,func317.trans (congrArg some (by kernel_rfl))⟩
 f57:=⟨Tryz.f350.name,by decide,func350.trans (congrArg some (by kernel_rfl))⟩
 t0:=underlying0
 a0:=isAgg0
 z0:=sizeOf0
 v0:=zeroValue0
 t3:=underlying3
 a3:=isAgg3
 z3:=sizeOf3
 v3:=zeroValue3
 t4:=underlying4
 a4:=isAgg4
 z4:=sizeOf4
 v4:=zeroValue4
 t5:=underlying5
 a5:=isAgg5
 z5:=sizeOf5
 v5:=zeroValue5
 t9:=underlying9
 a9:=isAgg9
 z9:=sizeOf9
 v9:=zeroValue9
 t22:=underlying42
 a22:=isAgg42
 z22:=sizeOf42
 v22:=zeroValue42
 t25:=underlying81
 a25:=isAgg81
 z25:=sizeOf81
 v25:=zeroValue81
 t39:=underlying103
 a39:=isAgg103
 z39:=sizeOf103
 v39:=zeroValue103
 t45:=underlying289
 a45:=isAgg289
 z45:=sizeOf289
 v45:=zeroValue289
 t46:=underlying290
 a46:=isAgg290
 z46:=sizeOf290
 v46:=zeroValue290
 t50:=underlying183
 a50:=isAgg183
 z50:=sizeOf183
 v50:=zeroValue183
 t53:=underlying296
 a53:=isAgg296
 z53:=sizeOf296
 v53:=zeroValue296
 t55:=underlying26
 a55:=isAgg26
 z55:=sizeOf26
 v55:=zeroValue26
 t66:=underlying327
 a66:=isAgg327
 z66:=sizeOf327
 v66:=zeroValue327
 t70:=underlying331
 a70:=isAgg331
 z70:=sizeOf331
 v70:=zeroValue331
 t76:=underlying358
 a76:=isAgg358
 z76:=sizeOf358
 v76:=zeroValue358
 t77:=underlying297
 a77:=isAgg297
 z77:=sizeOf297
 v77:=zeroValue297}
def iX:Go.Shelf.Ren:=⟨fun|5=>49|7=>85|n=>n,fun|22=>3|3=>3|4=>4|n=>n,fun|n=>n⟩
theorem yK:Go.Proofs.SlLaysC2.n5 Ad iX:={
 mixed:=by kernel_rfl
 f5:=⟨Tryz.f49.name,by decide,func49.trans (congrArg some (by kernel_rfl))⟩
 f7:=⟨Tryz.f85.name,by decide,func85.trans (congrArg some (by kernel_rfl))⟩
 t3:=underlying3
 a3:=isAgg3
 z3:=sizeOf3
 v3:=zeroValue3
 t4:=underlying4
 a4:=isAgg4
 z4:=sizeOf4
 v4:=zeroValue4
 t22:=underlying3
 a22:=isAgg3
 z22:=sizeOf3
 v22:=zeroValue3}
end
section
open Go.RowKit Go.Acc
def Vs(x y z:Int):Int:=if x≠0 then x else if y≠0 then y else z
theorem wP(b:Nat)(x y z:Int)(w:World)(h0:w.cell? ⟨b,0,none⟩=some (Aa Ab x))(h1:w.cell? ⟨b,1,none⟩=some (Aa Ab y))(h2:w.cell? ⟨b,2,none⟩=some (Aa Ab z)):
  Calls Ad 48 #[.slice (some ⟨b,0,none⟩) 3 3] w (Ab6 (Aa Ab (Vs x y z)) w):=by
 by_cases a:x=0
 ·subst a;by_cases c:y=0
  ·subst c;by_cases d:z=0
   ·subst d;go_enter func48,ntmps48;go_wp2;refine wp_loop_rounds 4 ?_
    repeat (rw [rounds_succ];go_wp2)
    all_goals
     go_ret;exact⟨rfl,rfl⟩
   ·have h:(z != 0)=true:=by simpa using d
    have e:Vs 0 0 z=z:=rfl;rw [e];clear d e;go_enter func48,ntmps48;go_wp2;refine wp_loop_rounds 4 ?_
    repeat (rw [rounds_succ];go_wp2)
    all_goals
     go_ret;exact⟨rfl,rfl⟩
  ·have g:(y != 0)=true:=by simpa using c
   have e:Vs 0 y z=y:=by unfold Vs;rw [if_neg (by decide),if_pos c]
   rw [e];clear c e;go_enter func48,ntmps48;go_wp2;refine wp_loop_rounds 4 ?_
   repeat (rw [rounds_succ];go_wp2)
   all_goals
    go_ret;exact⟨rfl,rfl⟩
 ·have f:(x != 0)=true:=by simpa using a
  have e:Vs x y z=x:=by unfold Vs;rw [if_pos a]
  rw [e];clear a e;go_enter func48,ntmps48;go_wp2;refine wp_loop_rounds 4 ?_
  repeat (rw [rounds_succ];go_wp2)
  all_goals
   go_ret;exact⟨rfl,rfl⟩
theorem Pq(x y:Int)(r:Int)(hr:Lib.compareInt x y=r)(w:World):Calls Ad 49 #[Aa Ab x,Aa Ab y] w (Ab6 (Aa Ab r) w):=by
 subst hr;have h:=AnyG.cmp_Compare_int yK x y w;change Calls Ad 49 _ _ _ at h;exact h.mono fun _ _ ⟨he,hw⟩=>⟨he,hw.symm⟩
def Xu(x y:P3):Int:=Vs (Lib.compareInt x.1 y.1) (Lib.compareInt x.2.1 y.2.1) (Lib.compareInt x.2.2 y.2.2)
theorem eK(a b c a' b' c':Int)(w:World):
  Calls Ad 47 #[.agg #[Aa Ab a,Aa Ab b,Aa Ab c],.agg #[Aa Ab a',Aa Ab b',Aa Ab c']] w fun e w'=>e= .returned (Aa Ab (Xu (a,b,c) (a',b',c')))∧∃q os,w'=Sort.grow (w.drewN q) os:=by
 obtain⟨r,d⟩:∃r,Lib.compareInt a a'=r:=⟨_,rfl⟩;obtain⟨s,f⟩:∃r,Lib.compareInt b b'=r:=⟨_,rfl⟩;obtain⟨t,ht⟩:∃r,Lib.compareInt c c'=r:=⟨_,rfl⟩;have e:Xu (a,b,c) (a',b',c')=Vs r s t:=by unfold Xu;simp only [d,f,ht]
 rw [e];have v:=Hd d;have x:=Hd f;have y:=Hd ht;clear d f ht e;go_enter func47,ntmps47;go_upto_region 1 with fail
 have p:=Hd ((Bb.new w 46 #[Aa Ab a,Aa Ab b,Aa Ab c]).alloc (.cells #[Aa Ab a',Aa Ab b',Aa Ab c'] 46));have u:=Hd (Bb.new_ (w:=w.alloc (.cells #[Aa Ab a,Aa Ab b,Aa Ab c] 46)) (g:=w.heap.size+1) (by simp) 46 #[Aa Ab a',Aa Ab b',Aa Ab c']);have n:=Hd (show ∃q os,(w.alloc (.cells #[Aa Ab a,Aa Ab b,Aa Ab c] 46)).alloc (.cells #[Aa Ab a',Aa Ab b',Aa Ab c'] 46)=Sort.grow (w.drewN q) os from⟨0,_,by rw [Sort.alloc_eq_grow,Sort.alloc_eq_grow,Sort.grow_grow];rfl⟩);generalize (w.alloc (.cells #[Aa Ab a,Aa Ab b,Aa Ab c] 46)).alloc (.cells #[Aa Ab a',Aa Ab b',Aa Ab c'] 46)=w1 at p u n⊢;obtain ⟨h,i,j⟩:=p.o.c3;obtain ⟨k,l,m⟩:=u.o.c3;have A:=Hd (show(w1.alloc (.cells #[Aa Ab r,Aa Ab s,Aa Ab t] 3)).drew.cell? ⟨w1.heap.size,0,none⟩=some (Aa Ab r) from(Bb.new w1 3 _).cell 0);have B:=Hd (show(w1.alloc (.cells #[Aa Ab r,Aa Ab s,Aa Ab t] 3)).drew.cell? ⟨w1.heap.size,1,none⟩=some (Aa Ab s) from(Bb.new w1 3 _).cell 1);have C:=Hd (show(w1.alloc (.cells #[Aa Ab r,Aa Ab s,Aa Ab t] 3)).drew.cell? ⟨w1.heap.size,2,none⟩=some (Aa Ab t) from(Bb.new w1 3 _).cell 2);go_region_held3 (fun w'=>w'.cell? ⟨w.heap.size,0,none⟩=some (Aa Ab a)∧w'.cell? ⟨w.heap.size,1,none⟩=some (Aa Ab b)∧w'.cell? ⟨w.heap.size,2,none⟩=some (Aa Ab c)∧w'.cell? ⟨w.heap.size+1,0,none⟩=some (Aa Ab a')∧w'.cell? ⟨w.heap.size+1,1,none⟩=some (Aa Ab b')∧w'.cell? ⟨w.heap.size+1,2,none⟩=some (Aa Ab c'))
  (first|with_reducible exact⟨h,i,j,k,l,m⟩|with_reducible exact⟨Bw h,Bw i,Bw j,Bw k,Bw l,Bw m⟩|with_reducible exact⟨Bw (Dj _ h),Bw (Dj _ i),Bw (Dj _ j),Bw (Dj _ k),Bw (Dj _ l),Bw (Dj _ m)⟩)
  (first
   |(go_at_call 49;(first|(with_reducible refine(Pq a a' r v.o _).mono ?_)|(with_reducible refine(Pq b b' s x.o _).mono ?_)|(with_reducible refine(Pq c c' t y.o _).mono ?_));rintro e w' ⟨rfl,rfl⟩)
   |(go_at_call 48;(with_reducible refine(wP w1.heap.size r s t _ A.o B.o C.o).mono ?_);rintro e w' ⟨rfl,rfl⟩))
 go_wp2_with fail;go_ret;obtain⟨q,os,z⟩:=n.o;rw [z];exact⟨rfl,q+1,_,by rw [Sort.alloc_eq_grow,Sort.grow_grow];rfl⟩
end
end Go.Proofs.YtejpbijeifjdeaaGreat
