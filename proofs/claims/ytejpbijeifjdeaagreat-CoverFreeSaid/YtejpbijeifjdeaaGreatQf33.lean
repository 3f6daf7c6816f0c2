/- CoverFree, the walk. CoverFree: for every tree, all flags and all bytes laid outside of the parts, a built document still represents the same tree. No conditions. -/
import Derived.Test.YtejpbijeifjdeaaGreatQf32
set_option maxHeartbeats 4000000
set_option maxRecDepth 100000
open Nat renaming le_refl→Ae
open Go.RowKit.Below renaming refl→Af
open Go.IntWalk renaming i64_in→Ao
open Go.Proofs.Tryz
open Go.Proofs.Tryz renaming prog→Ad
namespace Go.Proofs.YtejpbijeifjdeaaGreat
variable {L:List P3}{i:Nat}
section
open Go.RowKit Go.Acc
def Kf(L:List P3)(k i:Nat):Bool:=(L.take k).all fun p=>decide ((i:Int)<p.1)||decide (p.2.1≤(i:Int))
theorem nI{k:Nat}{x:P3}(h:L[k]?=some x):Kf L (k+1) i=(Kf L k i&&(decide ((i:Int)<x.1)||decide (x.2.1≤(i:Int)))):=by
 obtain⟨hk,e⟩:=List.getElem?_eq_some_iff.1 h;unfold Kf;rw [List.take_succ_eq_append_getElem hk,e,List.all_append];simp
theorem rH(h:Kf L L.length i=true):∀x∈L,¬(x.1≤(i:Int)∧(i:Int)<x.2.1):=by
 intro x hx;unfold Kf at h;rw [List.take_length] at h;have:=List.all_eq_true.1 h x hx;simp only [Bool.or_eq_true,decide_eq_true_eq] at this;omega
theorem xY{l l':List UInt8}(hs:∀x∈L,Kj l l' x)(hi:i<l'.length)(hf:∀x∈L,¬(x.1≤(i:Int)∧(i:Int)<x.2.1))(b:UInt8):∀x∈L,Kj l (l'.take i++ [b]++l'.drop (i+1)) x:=by
 intro x a j h1 h2;rw [←hs x a j h1 h2];have c:j≠i:=by rintro rfl;exact hf x a ⟨h1,h2⟩
 have d:(l'.take i).length=i:=by rw [List.length_take];omega
 by_cases h:j<i
 ·rw [List.append_assoc,List.getElem?_append_left (by omega),List.getElem?_take_of_lt h]
 ·rw [List.getElem?_append_right (by simp;omega),List.getElem?_drop]
  congr 1
  simp only [List.length_append,List.length_cons,List.length_nil];omega
theorem Ad4(z:Int):∃b:UInt8,z % 256=(b.toNat:Int):=by
 refine⟨UInt8.ofNat (z % 256).toNat,?_⟩;rw [UInt8.toNat_ofNat'];omega
theorem vJ(x:Nv)(T:Tr)(fl er wi:Int)(w:World)(hC:∀W,Below w.heap.size w W→Calls Ad 38 #[.agg (Afe x),.int .i64 60,.int .i64 40] W (Tw W T))(hc:R4 T)(he:(Gk H0 0 T 0).1=er)(hne:er≠0):
  Calls Ad 4 #[.agg (Afe x),.int .i64 fl,.int .i64 wi] w (Afc (.bool true) w):=by
 have f:=Hd hC;have j:=Hd hc;have l:=Hd (And.intro he hne);clear hC hc he hne;have b:=Hd (show Below w.heap.size w (w.alloc (.cells (Afe x) 34)) from(Af _ _).alloc (Ae _) _);have a:=Hd (Bk.new w 34 (Afe x));go_enter func4,ntmps4;go_upto_region 1 with fail
 generalize w.alloc (.cells (Afe x) 34)=w2 at b a⊢;generalize k:w.heap.size=bt at a⊢;clear k;have d:=b;obtain ⟨p,q,r,s,t,u⟩:=a.o.c6;clear b a;go_wp2_with fail;go_at_call 15;refine(vB x T fl er w2 (fun W hW=>f.o W (C1 d.o hW)) j.o l.o.1 l.o.2).mono ?_;rintro e m ⟨rfl,g⟩;have c:=Bi d.o g;have h:=Hd (c.alloc c.size (.cells #[.int .i64 0,.int .i64 0,.int .u64 0,.string ⟨#[]⟩,.slice none 0 0,.slice none 0 0] 34));clear g c;go_wp2_with fail;go_at_call 16;refine(Sl _).mono ?_;rintro e n ⟨rfl,g⟩;have i:=Hd (Bi h.o g);clear g;go_wp2_with fail;go_ret;exact⟨rfl,i.o⟩
theorem vK(x:Nv)(T:Tr)(fl wi:Int)(w:World)(hC:∀W,Below w.heap.size w W→Calls Ad 38 #[.agg (Afe x),.int .i64 60,.int .i64 40] W (Tw W T))(hN:G0 T)(hc:T.cost≤65000)(hp:(Tr.pre 0 T).length≤60)(he:(Gk H0 0 T 0).1=0):
  Calls Ad 4 #[.agg (Afe x),.int .i64 fl,.int .i64 wi] w (Afc (.bool true) w):=by
 have Q:=Kx Oa T 0 0 he;have b3:=jR T 0 Q;have bn:=Hd (fun(f:Nat) (hfl:Fq f 4=true→Fq f 1=true)=>nA Q hN hc f hfl);have bm:=Hd (show((By T).cnt:Int)≤1000 by rw [bO T Q];omega);have bv:=Hd (tW Q);have bo:=Hd (fun(D D':List UInt8) (log:List P3) (h:aU D (By T) log) (ht:Tu D log) (hL:D.length<2^32)=>sN (D':=D') h ht hL (gP Q) (Yj Q hN) (Ab4 Q));have ap:=Hd hC;have br:=Hd hN;have ao:=Hd (And.intro hc he);clear hC hN hc hp he Q b3;have S:=Hd (show Below w.heap.size w (w.alloc (.cells (Afe x) 34)) from(Af _ _).alloc (Ae _) _);have K:=Hd (Bk.new w 34 (Afe x));go_enter func4,ntmps4;go_upto_region 1 with fail
 generalize w.alloc (.cells (Afe x) 34)=w2 at S K⊢;generalize b1:w.heap.size=bt at K⊢;clear b1;have U:=S;obtain ⟨x0,x1,x2,x3,x4,x5⟩:=K.o.c6;clear S K;go_wp2_with fail;go_at_call 15;refine(vC x T fl w2 (fun W hW=>ap.o W (C1 U.o hW)) br.o ao.o.1 ao.o.2).mono ?_;rintro e w3 ⟨z,A,n,c,f,rfl,hfl,_,a5,y,hb⟩;rw [bv.o] at y;obtain⟨L,hM,hT,P,_,_,aj,H⟩:=bn.o f hfl;have O:=aj 1000 bm.o;obtain⟨hL,_⟩:=H 1000 O;generalize Ha f (By T)=l at y hM hT P aj H O hL;have aa:=Hd (fun D'=>bo.o l D' L hM hT (by omega));have N:=(Af w3.heap.size w3).alloc (Ae _) (.cells (Afe z) 34);have V:=Hd ((Bi U.o hb).alloc (Bi U.o hb).size (.cells (Afe z) 34));have I:=Hd (y.is.pure N);have J:=Hd (a5.pure N);have F:=Hd (Bk.new w3 34 (Afe z));have a6:=y.cap.1;have ba:n=l.length:=y.is.1.symm;have aw:=Hd ba;have R:=Hd (show ∀ad,A=some ad→ad.block<w3.heap.size from fun ad e=>(y.addr ad e).2.2);have ah:=Hd N.size;have cf:n≤65100:=by omega
 have b4:0<n:=by
  obtain⟨p,w',v,hr,_⟩:=aa.o l rfl (fun x _ i _ _=>rfl);have:=hr.len;omega
 clear hb y aj H x0 x1 x2 x3 x4 x5 N hfl ba P a5 hM hT;go_upto_region 4 with fail
 generalize w3.alloc (.cells (Afe z) 34)=w4 at V I J F ah⊢;have Y:=Hd (show w3.heap.size<w4.heap.size from F.o.lt);generalize w3.heap.size=bz at F R J ah Y⊢;have ag:=Hd (Xi A n c 1000 l w4 I.o a6 (by omega) (by decide));rw [O,hL] at ag;clear O hL;go_wp2_with fail;go_at_call 17;refine ag.o.mono ?_;rintro e w5 ⟨A2,k2,c2,rfl,G,B⟩;have X:=Hd (Bi V.o B);have af:=Hd (I.o.pure B);have av:=Hd (J.o.pure B);have a4:=Hd (F.o.pure B);have ax:=Hd G.is;have al:=Hd (show ∀ad,A2=some ad→ad.block<w5.heap.size from fun ad e=>(G.addr ad e).2.2);have a3:=Hd B.size;have cu:k2≤9223372036854775807:=by have:=G.cap;simp only [maxLen] at this;omega
 have ar:=Hd (show L.length=k2 from G.is.1);clear G B ag V I J F;have an:=Hd (mS A n c l w5 af.o (by omega));go_wp2_with fail;go_at_call 12;refine an.o.mono ?_;rintro e w6 ⟨A3,n3,c3,rfl,M,C⟩;obtain rfl:n3=n:=by rw [←M.1,aw.o]
 obtain⟨g,rfl,a8⟩:=xI M b4;have cl:=Hd a8;have ay:=Hd M;have bj:=Hd (Bi X.o C);have bp:=Hd (af.o.pure C);have bq:=Hd (av.o.pure C);have bw:=Hd (a4.o.pure C);have bs:=Hd (ax.o.pure C);have E:=Hd (show w.heap.size≤g∧bz≠g∧(∀ad,A=some ad→¬ad.block=g)∧(∀ad,A2=some ad→¬ad.block=g)∧∀b,b<bz→¬b=g by
  have h1:=a3.o;have h2:=Y.o;have h3:=X.o.size;exact⟨by omega,by omega,fun ad e h=>by have:=R.o ad e;omega,fun ad e h=>by have:=al.o ad e;omega,fun b hb h=>by omega⟩)
 clear M C a8 X af av a4 ax an R al ah a3 Y;go_wp2_with fail;go_loopw [13,14,15] (fun i _ _ wr=>∃k:Nat,k≤n3∧i= .int .i64 k∧Fr (fun j=>j=g) w6 wr∧∃l',I5 wr w5.heap.size (some ⟨g,0,none⟩) n3 c3 l'∧∀x∈L,Kj l l' x) (fun i _ _ _=>n3-(intOf i).toNat)
 case atStart=>exact⟨0,Nat.zero_le _,rfl,Fr.refl _ _,l,ay.o,fun x _ i _ _=>rfl⟩
 case round=>
  clear ay;obtain⟨k,hk,rfl,hf,l',y,hs⟩:=hrel;have d:=Hd hf;have s:=Hd y;have HS:=Hd hs;clear hf y hs;by_cases ai:k<n3
  ·have cq:(0:Int)≤k:=by omega
   have cr:(k:Int)<n3:=by omega
   have cx:IntKind.i64.wrap ((k:Int)+1)=(k:Int)+1:=Ao _ (by omega);go_wp2_with fail;go_loopw [14,15] (fun b u wr2=>∃m:Nat,m≤k2∧u= .int .i64 m∧b= .bool (Kf L m k)∧Fr (fun j=>j=g) w6 wr2∧I5 wr2 w5.heap.size (some ⟨g,0,none⟩) n3 c3 l') (fun _ u _=>k2-(intOf u).toNat)
   case atStart=>exact⟨0,Nat.zero_le _,rfl,rfl,d.o,s.o⟩
   case round=>
    clear d s;obtain⟨m,hm,rfl,rfl,hf,y⟩:=hrel;have d:=Hd hf;have s:=Hd y;clear hf y;by_cases a9:m<k2
    ·have cs:(0:Int)≤m:=by omega
     have ct:(m:Int)<k2:=by omega
     have cy:IntKind.i64.wrap ((m:Int)+1)=(m:Int)+1:=Ao _ (by omega);obtain⟨b2,o2,e2,h2⟩:=dR (bs.o.fr d.o E.o.2.2.2.1) a9;obtain⟨⟨p,q,r⟩,hx⟩:∃x,L[m]?=some x:=⟨_,List.getElem?_eq_getElem (by rw [ar.o];exact a9)⟩;obtain⟨a0,a1,a2⟩:=h2 p q r hx;subst e2;have t:=Hd (nI (i:=k) hx);clear h2 hx;cases hb:Kf L m k with
     |false=>
      rw [hb] at t;clear hb;go_wp2_with fail;go_roundw
      case rel=>exact⟨m+1,by omega,by go_num,by rw [t.o];rfl,d.o,s.o⟩
      case measure=>simp [intOf];omega
     |true=>
      rw [hb] at t;clear hb;by_cases h1:(k:Int)<p
      ·have HR:=Hd (show Kf L (m+1) k=true by rw [t.o];simp [h1]);go_wp2_with fail;go_roundw
       case rel=>exact⟨m+1,by omega,by go_num,by rw [HR.o],d.o,s.o⟩
       case measure=>simp [intOf];omega
      ·by_cases h2:q≤(k:Int)
       ·have HR:=Hd (show Kf L (m+1) k=true by rw [t.o];simp [h2]);go_wp2_with fail;go_roundw
        case rel=>exact⟨m+1,by omega,by go_num,by rw [HR.o],d.o,s.o⟩
        case measure=>simp [intOf];omega
       ·have HR:=Hd (show Kf L (m+1) k=false by rw [t.o];simp [h1,h2]);go_wp2_with fail;go_roundw
        case rel=>exact⟨m+1,by omega,by go_num,by rw [HR.o],d.o,s.o⟩
        case measure=>simp [intOf];omega
    ·obtain rfl:m=k2:=by omega
     have Z:=Hd (fun(h:Kf L m k=true)=>rH (L:=L) (i:=k) (by rw [ar.o];exact h));cases hb:Kf L m k with
     |false=>
      clear hb;go_wp2_with fail;go_roundw
      case rel=>exact⟨k+1,by omega,by go_num,d.o,l',s.o,HS.o⟩
      case measure=>simp [intOf];omega
     |true=>
      replace Z:=Hd (Z.o hb);clear hb;go_wp2_with fail;go_at_call 18;refine(mF wi 256 _ (by decide) (by decide)).mono ?_;rintro e w' ⟨rfl,rfl⟩;have b5:0≤wi % 256:=by omega
      have b6:wi % 256<256:=by omega
      generalize wi % 256=q at b5 b6⊢;obtain⟨⟨cp,u0,cw⟩,_⟩:=fB s.o ai 0;go_wp2_with fail;go_roundw
      case rel=>
       obtain⟨b,hb⟩:=Ad4 (q+(k:Int) % 7);rw [hb];exact⟨k+1,by omega,by go_num,d.o.setCell (fun _=>rfl) _,_,(fB s.o ai b).2,xY HS.o (by rw [s.o.1];exact ai) Z.o b⟩
      case measure=>simp [intOf];omega
  ·obtain rfl:k=n3:=by omega
   have HZ:=Hd (bw.o.fr d.o E.o.2.1);have HI:=Hd (bp.o.fr d.o E.o.2.2.1);have HN:=Hd (bq.o.keep fun a u hc hp=>C0 d.o hc (E.o.2.2.2.2 _ hp));have HB:=Hd (Cq bj.o d.o (by rintro j rfl;exact E.o.1));have aq:=Hd (aa.o l rfl (fun x _ i _ _=>rfl));have au:=Hd (aa.o l' (by rw [s.o.1,aw.o]) HS.o);obtain ⟨x0,x1,x2,x3,x4,x5⟩:=HZ.o.c6;obtain⟨p1,q1,v1,r1,d1,o1⟩:=aq.o;have ab:=Hd (Wq HI.o a6 (by omega) r1 d1 o1 HN.o);unfold L9 at ab;clear r1 d1 o1 aq;go_wp2_with fail;go_at_call 19;refine ab.o.mono ?_;rintro e w7 ⟨rfl,hb⟩;obtain⟨p2,q2,v2,r2,d2,o2⟩:=au.o;have ae:=Hd (Wq (s.o.is.pure hb) s.o.cap.1 (by omega) r2 d2 o2 (HN.o.pure hb));unfold L9 at ae;have am:=Hd (Bi HB.o hb);replace x0:=Bl hb x0;replace x1:=Bl hb x1;replace x2:=Bl hb x2;replace x3:=Bl hb x3;replace x4:=Bl hb x4;replace x5:=Bl hb x5;clear hb r2 d2 o2 au ab HB;go_wp2_with fail;go_at_call 19;refine ae.o.mono ?_;rintro e w8 ⟨rfl,hb⟩;have bk:=Hd (Bi am.o hb);clear hb ae am;go_wp2_with fail;go_at_call 16;refine(Sl _).mono ?_;rintro e w9 ⟨rfl,hb⟩;have bl:=Hd (Bi bk.o hb);clear hb;go_wp2_with fail;go_ret;exact⟨rfl,bl.o⟩
theorem mK(x:Nv)(t:Tr)(fl wi:Int)(w:World)(h:I4 w x t)(hN:G0 t):Calls Ad 4 #[.agg (Afe x),.int .i64 fl,.int .i64 wi] w (Afc (.bool true) w):=by
 obtain⟨T,hC,hT,hc,hv,hp⟩:=qN 40 59 h hN (by omega);by_cases he:(Gk H0 0 T 0).1=0
 ·exact vK x T fl wi w hC hT (hv (Kx Oa T 0 0 he)) hp he
 ·exact vJ x T fl _ wi w hC hc rfl he
end
section
open Go.RowKit Go.Acc Go.ChangeShapes Go.WideShapes Go.ChangeAt
theorem coverFree_run{H:Type}{enc:TypeId×Value→H}{v0 v1 v2:Value}{d0 d1 d2:DataW H}{p0 p1 p2:List MemPlace}(W:World)(base:Nat)(k0:Value.okWide Ad W .any base 34 v0)(k1:Value.okWide Ad W .any base 3 v1)(k2:Value.okWide Ad W .any base 3 v2)
  (h0:DataW.Trod enc Ad W 0 (fun _=>true) true 34 v0 d0 p0) (h1:DataW.Trod enc Ad W 0 (fun _=>true) true 3 v1 d1 p1) (h2:DataW.Trod enc Ad W 0 (fun _=>true) true 3 v2 d2 p2):
  Calls Ad 4 #[v0,v1,v2] W (Afc (.bool true) W):=by
 obtain⟨x,t,rfl,b,c⟩:=wZ k0 h0;obtain⟨a,rfl,_⟩:=kA k1 h1;obtain⟨d,rfl,_⟩:=kA k2 h2;exact mK x t a d W b c
theorem coverFree_lifted(os:Os)(started:os.Started)(H:Type)(enc:TypeId×Value→H):
  ReturnsInHanded {} Tryz.checked os 4 .any (Rows.coverFreeSpec.pre6 enc Ad Tryz.f4 Rows.coverFreeRow.domain false) (Rows.coverFreeSpec.post enc Ad Tryz.f4 false true false false):=by
 refine returnsInHanded_of_change (C:=Tryz.checked) zY started (by kernel_rfl) func4
  (ChangeSpec.witness6 (enc:=enc) (C:=Tryz.checked) false ⟨#[],#[.agg #[.int .i64 0,.int .i64 0,.int .u64 0,.string ⟨#[]⟩,.slice none 0 0,.slice none 0 0],.int .i64 0,.int .i64 0],[]⟩ 8 (by kernel_rfl) (by kernel_rfl) (by kernel_rfl) (by kernel_rfl)) ?_
 intro W base args r O d b k l _;have a:∀(j:Nat) t v,Tryz.f4.params[j]?=some t→args[j]?=some v→Value.okWide Ad W .any base t v:=b;have f:=k;obtain⟨p,q,c,x,rfl,y,z⟩:=k;have i:DataW.TrodAll enc Ad W 0 (fun _=>true) true Tryz.f4.params.toList args.toList r p:=c;rw [params4] at i;rw [params4] at a;obtain⟨m,I,L,s,P,S,g,rfl,rfl,h0,E⟩:=trodAll_cons i;obtain⟨n,J,M,u,Q,T,rfl,rfl,rfl,h1,F⟩:=trodAll_cons E;obtain⟨o,K,N,w,R,U,rfl,rfl,rfl,h2,G⟩:=trodAll_cons F;obtain⟨rfl,rfl,rfl⟩:=trodAll_nil G;obtain rfl:args=#[m,n,o]:=by cases args;simp_all
 obtain⟨rfl,rfl⟩:=trodVars_none x;have A:=a 0 34 m rfl rfl;have B:=a 1 3 n rfl rfl;have D:=a 2 3 o rfl rfl;clear c b;refine(coverFree_run (enc:=enc) W base A B D h0 h1 h2).mono fun e W' ⟨he,bel⟩=>?_
 subst he;exact⟨_,rfl,_,_,_,[],_,[],f,trodAll_mk1 (shut_bool underlying4 _),(trodAll_cons_mk (Sd Mu (by kernel_rfl) (of_decide_eq_true (by kernel_rfl)) h0 bel) (trodAll_cons_mk (Sd Mu (by kernel_rfl) (of_decide_eq_true (by kernel_rfl)) h1 bel) (trodAll_cons_mk (Sd Mu (by kernel_rfl) (of_decide_eq_true (by kernel_rfl)) h2 bel) trodAll_mk0))),rfl,bel.frame _,fun h=>by cases h⟩
theorem cA:laidOutB Ad=true:=by kernel_rfl
theorem cB:mapsRowed Ad=true:=by kernel_rfl
theorem cC:(Rows.coverFreeRow.inPlace==Ad.inPlace 4)=true:=by kernel_rfl
theorem cD:(Rows.coverFreeRow.unfollowed==Ad.unfollowed 4)=true:=by kernel_rfl
theorem cE:(Rows.coverFreeRow.recurses==Ad.recurses 4)=true:=by kernel_rfl
theorem cF:(Rows.coverFreeRow.named==Ad.varsNamed 4)=true:=by kernel_rfl
theorem U0:joinedFacts Ad 4 Tryz.f4 Rows.coverFreeSpec Rows.coverFreeRow=true:=by
 unfold joinedFacts;rw [cA,cB,cC,cD,cE,cF]
 kernel_rfl
theorem coverFree_holds:Rows.CoverFreeSaid:=
 OpenClaim.holds_of_wide 4 Tryz.f4 rfl rfl rfl rfl rfl rfl rfl ⟨rfl,rfl,rfl,rfl,rfl⟩ rfl rfl rfl rfl rfl (by kernel_rfl) func4 U0
  (of_decide_eq_true (by kernel_rfl)) (by unfold Func.isWrapper;rw [if_neg (of_decide_eq_false (by kernel_rfl))];exact⟨rfl,rfl⟩)
  (fun os started H enc _=>coverFree_lifted os started H enc)
#print axioms coverFree_holds
end
end Go.Proofs.YtejpbijeifjdeaaGreat
