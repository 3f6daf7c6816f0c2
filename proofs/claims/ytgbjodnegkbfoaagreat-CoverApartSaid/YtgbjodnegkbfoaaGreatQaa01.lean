/- CoverApart, the walk. CoverApart: for every tree and all flags, in a built document no two parts overlap, and all bytes outside of the parts are 00. No conditions. -/
import Derived.Test.YtgbjodnegkbfoaaGreatQa37
set_option maxHeartbeats 4000000
set_option maxRecDepth 100000
open Go.Value renaming int→Aa
open Go.IntKind renaming i64→Ab,u64→Ac
open Nat renaming le_refl→Ath
open List renaming getElem?_eq_getElem→Ati
namespace Go.Proofs.YtgbjodnegkbfoaaGreat
open Go.RowKit Go.Acc
def Il(L:List P3)(k:Nat):Int:=((L.take k).getLast?.map (·.2.1)).getD 0
theorem Xt(L:List P3):Il L 0=0:=by simp [Il]
theorem Xs{L:List P3}{k:Nat}{x:P3}(h:L[k]?=some x):Il L (k+1)=x.2.1:=by
 have e:L.take (k+1)=L.take k++ [x]:=by
  obtain⟨hk,e⟩:=List.getElem?_eq_some_iff.1 h;rw [List.take_succ_eq_append_getElem hk,e]
 unfold Il;rw [e,List.getLast?_concat];rfl
theorem Aqs{l:List UInt8}{L:List P3}(h:Y9 l L){k:Nat}{x y z:Int}(hx:L[k]?=some (x,y,z)):0≤Il L k∧Il L k≤x∧x<y∧y≤l.length∧∀j:Nat,Il L k≤(j:Int)→(j:Int)<x→l[j]?=some 0:=by
 have hm:=h.rg _ (List.mem_of_getElem? hx);simp only at hm;obtain⟨hk,ek⟩:=List.getElem?_eq_some_iff.1 hx;have hlow:∀m (hmk:m<k),(L[m]'(by omega)).2.1≤Il L k∧Il L k≤x:=by
  intro m hmk;cases k with
  |zero=>omega
  |succ k=>
   have hq:L[k]?=some (L[k]'(by omega)):=Ati _;rw [Xs hq];have h1:=List.pairwise_iff_getElem.1 h.asc k (k+1) (by omega) hk (by omega);rw [ek] at h1;refine⟨?_,h1⟩;by_cases e:m=k
   ·subst e;exact Int.le_refl _
   ·have h2:=List.pairwise_iff_getElem.1 h.asc m k (by omega) (by omega) (by omega);have h3:=h.rg _ (List.getElem_mem (show k<L.length by omega));omega
 have hb:0≤Il L k∧Il L k≤x:=by
  cases k with
  |zero=>rw [Xt];exact⟨Int.le_refl _,hm.1⟩
  |succ k=>
   have h1:=hlow k (by omega);have h2:=h.rg _ (List.getElem_mem (show k<L.length by omega));omega
 refine⟨hb.1,hb.2,hm.2.1,hm.2.2,fun j h1 h2=>?_⟩;have hj:j<l.length:=by omega
 have hjj:l[j]?=some l[j]:=Ati hj;by_cases h0:l[j]=0
 ·rw [hjj,h0]
 ·exfalso;obtain⟨p,hp,p1,p2⟩:=h.o j _ hjj h0;obtain⟨m,hml,rfl⟩:=List.mem_iff_getElem.1 hp;by_cases hmk:m<k
  ·have:=(hlow m hmk).1;omega
  ·by_cases e:m=k
   ·subst e;rw [ek] at p1;simp only at p1;omega
   ·have h3:=List.pairwise_iff_getElem.1 h.asc k m hk hml (by omega);rw [ek] at h3;simp only at h3;omega
theorem An7{l:List UInt8}{L:List P3}{n:Nat}(hl:l.length=n+1)(h:L.getLast?=some ((n:Int),((n+1:Nat):Int),14)):Il L L.length=l.length:=by
 unfold Il;rw [List.take_length,h,hl];rfl
theorem Aie(x:Nv)(T:Tr)(fl er:Int)(w:World)(hC:∀W,Below w.heap.size w W→Calls Tryz.prog 13 #[.agg #[Aa Ab x.k,Aa Ab x.n,Aa Ac (x.u:Int),.string ⟨x.s.toArray⟩,.slice x.A x.an x.ac,.slice x.B x.bn x.bc],Aa Ab 60,Aa Ab 40] W (Ng W T))(hc:Ou T)(he:(Fa F6 0 T 0).1=er)(hne:er≠0):
  Calls Tryz.prog 5 #[.agg #[Aa Ab x.k,Aa Ab x.n,Aa Ac (x.u:Int),.string ⟨x.s.toArray⟩,.slice x.A x.an x.ac,.slice x.B x.bn x.bc],Aa Ab fl] w fun e w'=>e= .returned (.bool true)∧Below w.heap.size w w':=by
 have HCUT:=Hd hC;have HFK:=Hd hc;have HE:=Hd (And.intro he hne);clear hC hc he hne;have HB0:=Hd (show Below w.heap.size w (w.alloc (.cells #[Aa Ab x.k,Aa Ab x.n,Aa Ac (x.u:Int),.string ⟨x.s.toArray⟩,.slice x.A x.an x.ac,.slice x.B x.bn x.bc] 26)) from(Below.refl _ _).alloc (Ath _) _);have HX0:=Hd (Af.new w 26 #[Aa Ab x.k,Aa Ab x.n,Aa Ac (x.u:Int),.string ⟨x.s.toArray⟩,.slice x.A x.an x.ac,.slice x.B x.bn x.bc]);go_enter Tryz.func5,Tryz.ntmps5;go_upto_region 1 with fail
 generalize w.alloc (.cells #[Aa Ab x.k,Aa Ab x.n,Aa Ac (x.u:Int),.string ⟨x.s.toArray⟩,.slice x.A x.an x.ac,.slice x.B x.bn x.bc] 26)=w1 at HB0 HX0⊢;generalize hbt:w.heap.size=bt at HX0⊢;clear hbt;go_wp2_with fail;go_at_call 21;refine(Kf _).mono ?_;rintro e w2 ⟨rfl,hb⟩;have HB1:=Hd (Ad HB0.o hb);have HX1:=Hd (HX0.o.pure hb);clear hb HB0 HX0;obtain ⟨x0,x1,x2,x3,x4,x5⟩:=HX1.o.c6;go_wp2_with fail;go_at_call 22;refine(Zs x T fl er w2 (fun W hW=>HCUT.o W (B6 HB1.o hW)) HFK.o HE.o.1 HE.o.2).mono ?_;rintro e w3 ⟨rfl,hb⟩;have HB3:=Hd (Ad HB1.o hb);clear hb;go_wp2_with fail;go_ret;exact⟨rfl,HB3.o.alloc HB3.o.size _⟩
theorem Aif(x:Nv)(T:Tr)(fl:Int)(w:World)(hC:∀W,Below w.heap.size w W→Calls Tryz.prog 13 #[.agg #[Aa Ab x.k,Aa Ab x.n,Aa Ac (x.u:Int),.string ⟨x.s.toArray⟩,.slice x.A x.an x.ac,.slice x.B x.bn x.bc],Aa Ab 60,Aa Ab 40] W (Ng W T))(hN:Fb T)(hc:T.cost≤65000)(hp:(Tr.pre 0 T).length≤60)(he:(Fa F6 0 T 0).1=0):
  Calls Tryz.prog 5 #[.agg #[Aa Ab x.k,Aa Ab x.n,Aa Ac (x.u:Int),.string ⟨x.s.toArray⟩,.slice x.A x.an x.ac,.slice x.B x.bn x.bc],Aa Ab fl] w fun e w'=>e= .returned (.bool true)∧Below w.heap.size w w':=by
 have hv:=H0 Kg T 0 0 he;have hcn:=V1 T 0 hv;have HDP:=Hd (fun(f:Nat) (hfl:Ek f 4=true→Ek f 1=true)=>Xr (P1 hv) (Pn hN) (by rw [Ij T hv];exact hc) f hfl);have HCN:=Hd (show((Aq (Aq T)).cnt:Int)≤1000 by rw [Mo _ (P1 hv),Mo T hv];omega);have HCUT:=Hd hC;have HNT:=Hd hN;have HCO:=Hd (And.intro hc he);clear hC hN hc hp he hv hcn;have HB0:=Hd (show Below w.heap.size w (w.alloc (.cells #[Aa Ab x.k,Aa Ab x.n,Aa Ac (x.u:Int),.string ⟨x.s.toArray⟩,.slice x.A x.an x.ac,.slice x.B x.bn x.bc] 26)) from(Below.refl _ _).alloc (Ath _) _);have HX0:=Hd (Af.new w 26 #[Aa Ab x.k,Aa Ab x.n,Aa Ac (x.u:Int),.string ⟨x.s.toArray⟩,.slice x.A x.an x.ac,.slice x.B x.bn x.bc]);go_enter Tryz.func5,Tryz.ntmps5;go_upto_region 1 with fail
 generalize w.alloc (.cells #[Aa Ab x.k,Aa Ab x.n,Aa Ac (x.u:Int),.string ⟨x.s.toArray⟩,.slice x.A x.an x.ac,.slice x.B x.bn x.bc] 26)=w1 at HB0 HX0⊢;generalize hbt:w.heap.size=bt at HX0⊢;clear hbt;go_wp2_with fail;go_at_call 21;refine(Kf _).mono ?_;rintro e w2 ⟨rfl,hb⟩;have HB1:=Hd (Ad HB0.o hb);have HX1:=Hd (HX0.o.pure hb);clear hb HB0 HX0;obtain ⟨x0,x1,x2,x3,x4,x5⟩:=HX1.o.c6;go_wp2_with fail;go_at_call 22;refine(Zt x T fl w2 (fun W hW=>HCUT.o W (B6 HB1.o hW)) HNT.o HCO.o.1 HCO.o.2).mono ?_;rintro e w3 ⟨z,A,n,c,f,rfl,hfl,_,_,hO,hb⟩;obtain⟨L,hT,hlen,⟨m,hm1,hm2⟩,_,hok,hall⟩:=HDP.o f hfl;have he0:=hok 1000 HCN.o;obtain⟨hL,_⟩:=hall 1000 he0;generalize E0 f (Aq (Aq T))=l at hO hT hlen hm1 hm2 hok hall he0 hL;have HB3:=Hd ((Ad HB1.o hb).alloc (Ad HB1.o hb).size (.cells #[Aa Ab z.k,Aa Ab z.n,Aa Ac (z.u:Int),.string ⟨z.s.toArray⟩,.slice z.A z.an z.ac,.slice z.B z.bn z.bc] 26));have hal:=(Below.refl w3.heap.size w3).alloc (Ath _) (.cells #[Aa Ab z.k,Aa Ab z.n,Aa Ac (z.u:Int),.string ⟨z.s.toArray⟩,.slice z.A z.an z.ac,.slice z.B z.bn z.bc] 26);have HI3:=Hd (hO.is.pure hal);have hca:=hO.cap.1;have hnl:n=l.length:=hO.is.1.symm;have HTL:=Hd hT;have HEN:=Hd (An7 hm1 hm2);have HNL:=Hd hnl;have hn65:n≤65100:=by omega
 clear hb hO hok hall x0 x1 x2 x3 x4 x5 HX1 hal hfl hm1 hm2 hnl hlen;go_upto_region 4 with fail
 generalize w3.alloc (.cells #[Aa Ab z.k,Aa Ab z.n,Aa Ac (z.u:Int),.string ⟨z.s.toArray⟩,.slice z.A z.an z.ac,.slice z.B z.bn z.bc] 26)=w4 at HB3 HI3⊢;have HPS:=Hd (Ma A n c 1000 l w4 HI3.o hca (by omega) (by decide));rw [he0,hL] at HPS;clear he0 hL hT;go_wp2_with fail;go_at_call 23;refine HPS.o.mono ?_;rintro e w5 ⟨A2,k2,c2,rfl,hO2,hb2⟩;have HB5:=Hd (Ad HB3.o hb2);have HI5:=Hd (HI3.o.pure hb2);have HO5:=Hd hO2.is;have hmx:k2≤9223372036854775807:=by have:=hO2.cap;simp only [maxLen] at this;omega
 have HLK:=Hd (show L.length=k2 from hO2.is.1);clear hO2 hb2 HPS HB3 HI3;go_wp2_with fail;go_loopw [10,11,12] (fun a i _ wr=>∃k:Nat,k≤k2∧i= Aa Ab k∧a= Aa Ab (Il L k)∧Below w.heap.size w wr∧Xb wr A2 k2 L∧Cw wr A n l) (fun _ i _ _=>k2-(intOf i).toNat)
 case atStart=>exact⟨0,Nat.zero_le _,rfl,by rw [Xt],HB5.o,HO5.o,HI5.o⟩
 case round=>
  clear HB5 HO5 HI5;obtain⟨k,hk,rfl,rfl,hb,h1,h2⟩:=hrel;have HB:=Hd hb;have HI:=Hd h1;have HY:=Hd h2;clear hb h1 h2;by_cases hkn:k<k2
  ·have hk0:(0:Int)≤k:=by omega
   have hkI:(k:Int)<k2:=by omega
   have hwk:IntKind.i64.wrap ((k:Int)+1)=(k:Int)+1:=IntWalk.i64_in _ (by omega);obtain⟨b2,o2,e2,h2⟩:=Ux HI.o hkn;subst e2;obtain⟨⟨p,q,r⟩,hx⟩:∃x,L[k]?=some x:=⟨_,Ati (by rw [HLK.o];exact hkn)⟩;obtain⟨a0,a1,a2⟩:=h2 p q r hx;obtain⟨g1,g2,g3,g4,g5⟩:=Aqs HTL.o hx;have HX:=Hd hx;have HZ:=Hd g5;have HNX:=Hd (Xs hx);obtain⟨at_,hat⟩:∃a:Nat,Il L k=(a:Int):=⟨(Il L k).toNat,by omega⟩;obtain⟨pn,hpn⟩:∃a:Nat,p=(a:Int):=⟨p.toNat,by omega⟩;subst hpn;rw [hat] at g1 g2 HZ⊢;have t1:¬pn<at_:=by omega
   have t2:¬q≤(pn:Int):=by omega
   have t3:¬(n:Int)<q:=by have:=HNL.o;omega
   have HG:=Hd (show at_≤pn∧pn≤n by have:=HNL.o;omega);clear h2 hx g1 g2 g3 g4 g5 hat;go_wp2_with fail;go_quiet (fail);go_wp2_with fail;go_loopw [12] (fun u wr2=>∃j:Nat,at_≤j∧j≤pn∧u= Aa Ab (j:Int)∧Below w.heap.size w wr2∧Xb wr2 (some ⟨b2,o2,none⟩) k2 L∧Cw wr2 A n l) (fun u _=>pn-(intOf u).toNat)
   case atStart=>exact⟨at_,Ath _,HG.o.1,rfl,below_drewN HB.o _,HI.o.drewN _,HY.o.drewN _⟩
   case round=>
    clear HB HI HY a0 a1 a2;obtain⟨j,hj1,hj2,rfl,hb,h1,h2⟩:=hrel;have HB:=Hd hb;have HI:=Hd h1;have HY:=Hd h2;clear hb h1 h2;obtain⟨b3,o3,e3,h3⟩:=Ux HI.o hkn;injection e3 with e3
    injection e3 with e3 e4
    subst e3 e4;obtain⟨a0,a1,a2⟩:=h3 _ _ _ HX.o;clear h3;by_cases hjp:j<pn
    ·have hj0:(0:Int)≤j:=by omega
     have hjI:(j:Int)<pn:=by omega
     have hjn:j<n:=by have:=HG.o;omega
     have hjN:(j:Int)<n:=by omega
     have hwj:IntKind.i64.wrap ((j:Int)+1)=(j:Int)+1:=IntWalk.i64_in _ (by omega);obtain⟨b4,o4,e4,hj3,h4⟩:=Kk HY.o hjn;have hz0:l[j]=0:=by
      have:=HZ.o j (by omega) (by omega);rw [Ati hj3] at this;exact Option.some.inj this
     rw [hz0] at h4;have h4:_=some (Value.int .u8 0):=h4;subst e4;go_wp2_with fail;go_roundw
     case rel=>exact⟨j+1,by omega,by omega,by go_num,HB.o,HI.o,HY.o⟩
     case measure=>simp [intOf];omega
    ·obtain rfl:j=pn:=by omega
     go_wp2_with fail;go_roundw
     case rel=>exact⟨k+1,by omega,by go_num,by rw [HNX.o],HB.o,HI.o,HY.o⟩
     case measure=>simp [intOf];omega
  ·obtain rfl:k=k2:=by omega
   have hee:Il L k=(n:Int):=by
    have h1:=HEN.o;rw [HLK.o] at h1;rw [h1,HNL.o]
   rw [hee];go_wp2_with fail;go_ret;exact⟨rfl,HB.o⟩
theorem Ac1(x:Nv)(t:Tr)(fl:Int)(w:World)(h:G5 w x t)(hN:Fb t):Calls Tryz.prog 5 #[.agg #[Aa Ab x.k,Aa Ab x.n,Aa Ac (x.u:Int),.string ⟨x.s.toArray⟩,.slice x.A x.an x.ac,.slice x.B x.bn x.bc],Aa Ab fl] w fun e w'=>e= .returned (.bool true)∧Below w.heap.size w w':=by
 obtain⟨T,hC,hT,hc,hv,hp⟩:=Xq 40 59 h hN (by omega);by_cases he:(Fa F6 0 T 0).1=0
 ·exact Aif x T fl w hC hT (hv (H0 Kg T 0 0 he)) hp he
 ·exact Aie x T fl _ w hC hc rfl he
end Go.Proofs.YtgbjodnegkbfoaaGreat
namespace Go.Proofs.YtgbjodnegkbfoaaGreat
open Go.RowKit Go.Acc Go.ChangeShapes Go.WideShapes Go.ChangeAt
theorem coverApart_run{H:Type}{enc:TypeId×Value→H}{v0 v1:Value}{d0 d1:DataW H}{p0 p1:List MemPlace}(W:World)(base:Nat)(k0:Value.okWide Tryz.prog W .any base 26 v0)(k1:Value.okWide Tryz.prog W .any base 3 v1)
  (h0:DataW.Trod enc Tryz.prog W 0 (fun _=>true) true 26 v0 d0 p0) (h1:DataW.Trod enc Tryz.prog W 0 (fun _=>true) true 3 v1 d1 p1):
  Calls Tryz.prog 5 #[v0,v1] W fun e w'=>e= .returned (.bool true)∧Below W.heap.size W w':=by
 obtain⟨x,t,rfl,hI,hN⟩:=Abo k0 h0;obtain⟨fl,rfl,_⟩:=Api k1 h1;exact Ac1 x t fl W hI hN
theorem coverApart_lifted(os:Os)(started:os.Started)(H:Type)(enc:TypeId×Value→H):
  ReturnsInHanded {} Tryz.checked os 5 .any (Rows.coverApartSpec.pre6 enc Tryz.prog Tryz.f5 Rows.coverApartRow.domain false) (Rows.coverApartSpec.post enc Tryz.prog Tryz.f5 false true false false):=by
 refine returnsInHanded_of_change (C:=Tryz.checked) Ad4 started (by kernel_rfl) Tryz.func5
  (ChangeSpec.witness6 (enc:=enc) (C:=Tryz.checked) false ⟨#[],#[.agg #[Aa Ab 0,Aa Ab 0,Aa Ac 0,.string ⟨#[]⟩,.slice none 0 0,.slice none 0 0],Aa Ab 0],[]⟩ 8 (by kernel_rfl) (by kernel_rfl) (by kernel_rfl) (by kernel_rfl)) ?_
 intro W base args ds gs before hval0 hW hcnd _;have hval:∀(j:Nat) t v,Tryz.f5.params[j]?=some t→args[j]?=some v→Value.okWide Tryz.prog W .any base t v:=hval0;have hW':=hW;obtain⟨p,q,hA0,hV,rfl,hfz,hnd⟩:=hW;have hA:DataW.TrodAll enc Tryz.prog W 0 (fun _=>true) true Tryz.f5.params.toList args.toList ds p:=hA0;rw [Tryz.params5] at hA;rw [Tryz.params5] at hval;obtain⟨v0,vs0,d0,ds0,p0,q0,hargs,rfl,rfl,h0,r0⟩:=trodAll_cons hA;obtain⟨v1,vs1,d1,ds1,p1,q1,rfl,rfl,rfl,h1,r1⟩:=trodAll_cons r0;obtain⟨rfl,rfl,rfl⟩:=trodAll_nil r1;obtain rfl:args=#[v0,v1]:=by cases args;simp_all
 obtain⟨rfl,rfl⟩:=trodVars_none hV;have k0:=hval 0 26 v0 rfl rfl;have k1:=hval 1 3 v1 rfl rfl;clear hA0 hval0;refine(coverApart_run (enc:=enc) W base k0 k1 h0 h1).mono fun e W' ⟨he,bel⟩=>?_
 subst he;exact⟨_,rfl,_,_,_,[],_,[],hW',trodAll_mk1 (shut_bool Tryz.underlying4 _),(trodAll_cons_mk (Ql Ld (by kernel_rfl) (of_decide_eq_true (by kernel_rfl)) h0 bel) (trodAll_cons_mk (Ql Ld (by kernel_rfl) (of_decide_eq_true (by kernel_rfl)) h1 bel) trodAll_mk0)),rfl,bel.frame _,fun h=>by cases h⟩
theorem Yv:laidOutB Tryz.prog=true:=by kernel_rfl
theorem Yw:mapsRowed Tryz.prog=true:=by kernel_rfl
theorem Yx:(Rows.coverApartRow.inPlace==Tryz.prog.inPlace 5)=true:=by kernel_rfl
theorem Yy:(Rows.coverApartRow.unfollowed==Tryz.prog.unfollowed 5)=true:=by kernel_rfl
theorem Yz:(Rows.coverApartRow.recurses==Tryz.prog.recurses 5)=true:=by kernel_rfl
theorem Y0:(Rows.coverApartRow.named==Tryz.prog.varsNamed 5)=true:=by kernel_rfl
theorem Se:joinedFacts Tryz.prog 5 Tryz.f5 Rows.coverApartSpec Rows.coverApartRow=true:=by
 unfold joinedFacts;rw [Yv,Yw,Yx,Yy,Yz,Y0]
 kernel_rfl
theorem coverApart_holds:Rows.CoverApartSaid:=
 OpenClaim.holds_of_wide 5 Tryz.f5 rfl rfl rfl rfl rfl rfl rfl ⟨rfl,rfl,rfl,rfl,rfl⟩ rfl rfl rfl rfl rfl (by kernel_rfl) Tryz.func5 Se
  (of_decide_eq_true (by kernel_rfl)) (by unfold Func.isWrapper;rw [if_neg (of_decide_eq_false (by kernel_rfl))];exact⟨rfl,rfl⟩)
  (fun os started H enc _=>coverApart_lifted os started H enc)
#print axioms coverApart_holds
end Go.Proofs.YtgbjodnegkbfoaaGreat
