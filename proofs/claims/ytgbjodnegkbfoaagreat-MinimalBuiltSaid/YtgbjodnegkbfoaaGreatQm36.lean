/- Package minimal: the examples of the chapter. MinimalBuilt, the walk. MinimalBuilt: for every tree and all flags, in a built document nothing is too wide. No conditions. -/
import Derived.Test.YtgbjodnegkbfoaaGreatQm35
set_option maxHeartbeats 4000000
set_option maxRecDepth 100000
open Go.Value renaming int→Aa
open Go.IntKind renaming i64→Ab,u64→Ac
namespace Go.Proofs.YtgbjodnegkbfoaaGreat
open Go.RowKit Go.Acc
theorem Gn(s:ByteArray)(fuel a er:Int)(w:World)(hf:fuel≤100000000)(hs:s.size≤1000)(h1:Da s.data.toList fuel=(a,er)):
  Calls Tryz.prog 41 #[.string s,Aa Ab fuel,Aa Ab a,Aa Ab er] w fun e w'=>e= .returned (.bool true)∧Below w.heap.size w w':=by
 have H1:=Hd h1;obtain⟨c,w1,hcv,hc,hi,hb⟩:=Akd s w;have HI:=Hd hi;have HB:=Hd hb;clear h1 hi hb;go_enter Tryz.func41,Tryz.ntmps41;go_wp2_with fail;go_at_call 14;refine(Pq _ s.size c fuel s.data.toList _ HI.o hc (by omega) hf).mono ?_;rw [H1.o];rintro e w2 ⟨rfl,hb⟩;replace HB:=Hd (Ad HB.o hb);clear hb hcv HI;go_wp2;go_ret;exact⟨rfl,HB.o⟩
theorem Arv:Da [5,4,1] 9=(0,0):=by decide
theorem Arw:Da [5,0,5,2] 9=(0,10):=by decide
theorem Arx:Da [44,1,5,2] 9=(0,0):=by decide
theorem Ary:Da [255,0,5,2] 9=(0,0):=by decide
theorem Arz:Da [2,104,105,0,3,20,1] 9=(0,0):=by decide
theorem Ar0:Da [2,0,104,105,0,3,21,1] 9=(2,10):=by decide
theorem Ar1:Da [2,0,1,0,44,1,5,5,6,41,1] 9=(0,0):=by decide
theorem Ar2:Da [2,0,1,0,2,0,5,5,6,41,1] 9=(2,10):=by decide
theorem Ar3:Da [5,4,1] 0=(0,260):=by decide
theorem Aq9:Da [4,1] 9=(0,210):=by decide
theorem Qv(w:World):Calls Tryz.prog 11 #[] w fun e w'=>e= .returned (.bool true)∧Below w.heap.size w w':=by
 have HB:=Hd (Below.refl w.heap.size w);go_enter Tryz.func11,Tryz.ntmps11;go_wp2_with fail;go_at_call 41;refine(Gn _ 9 0 0 _ (by decide) (by decide) Arv).mono ?_;rintro e wn ⟨rfl,hb⟩;replace HB:=Hd (Ad HB.o hb);clear hb;go_wp2_with fail;go_at_call 41;refine(Gn _ 9 0 10 _ (by decide) (by decide) Arw).mono ?_;rintro e wn ⟨rfl,hb⟩;replace HB:=Hd (Ad HB.o hb);clear hb;go_wp2_with fail;go_at_call 41;refine(Gn _ 9 0 0 _ (by decide) (by decide) Arx).mono ?_;rintro e wn ⟨rfl,hb⟩;replace HB:=Hd (Ad HB.o hb);clear hb;go_wp2_with fail;go_at_call 41;refine(Gn _ 9 0 0 _ (by decide) (by decide) Ary).mono ?_;rintro e wn ⟨rfl,hb⟩;replace HB:=Hd (Ad HB.o hb);clear hb;go_wp2_with fail;go_at_call 41;refine(Gn _ 9 0 0 _ (by decide) (by decide) Arz).mono ?_;rintro e wn ⟨rfl,hb⟩;replace HB:=Hd (Ad HB.o hb);clear hb;go_wp2_with fail;go_at_call 41;refine(Gn _ 9 2 10 _ (by decide) (by decide) Ar0).mono ?_;rintro e wn ⟨rfl,hb⟩;replace HB:=Hd (Ad HB.o hb);clear hb;go_wp2_with fail;go_at_call 41;refine(Gn _ 9 0 0 _ (by decide) (by decide) Ar1).mono ?_;rintro e wn ⟨rfl,hb⟩;replace HB:=Hd (Ad HB.o hb);clear hb;go_wp2_with fail;go_at_call 41;refine(Gn _ 9 2 10 _ (by decide) (by decide) Ar2).mono ?_;rintro e wn ⟨rfl,hb⟩;replace HB:=Hd (Ad HB.o hb);clear hb;go_wp2_with fail;go_at_call 41;refine(Gn _ 0 0 260 _ (by decide) (by decide) Ar3).mono ?_;rintro e wn ⟨rfl,hb⟩;replace HB:=Hd (Ad HB.o hb);clear hb;go_wp2_with fail;go_at_call 41;refine(Gn _ 9 0 210 _ (by decide) (by decide) Aq9).mono ?_;rintro e wn ⟨rfl,hb⟩;replace HB:=Hd (Ad HB.o hb);clear hb;go_wp2;go_ret;exact⟨rfl,HB.o⟩
theorem Aji(x:Nv)(T:Tr)(fl er:Int)(w:World)(hC:∀W,Below w.heap.size w W→Calls Tryz.prog 13 #[.agg #[Aa Ab x.k,Aa Ab x.n,Aa Ac (x.u:Int),.string ⟨x.s.toArray⟩,.slice x.A x.an x.ac,.slice x.B x.bn x.bc],Aa Ab 80,Aa Ab 300] W (Y2 W T))(hc:V4 T)(he:(Hk Ha 0 T 0).1=er)(hne:er≠0):
  Calls Tryz.prog 3 #[.agg #[Aa Ab x.k,Aa Ab x.n,Aa Ac (x.u:Int),.string ⟨x.s.toArray⟩,.slice x.A x.an x.ac,.slice x.B x.bn x.bc],Aa Ab fl] w fun e w'=>e= .returned (.bool true)∧Below w.heap.size w w':=by
 have HCUT:=Hd hC;have HCO:=Hd hc;have HE:=Hd (And.intro he hne);have hb1:(er != 0)=true:=by simpa using hne
 clear hC hc he hne;have HB0:=Hd (show Below w.heap.size w (w.alloc (.cells #[Aa Ab x.k,Aa Ab x.n,Aa Ac (x.u:Int),.string ⟨x.s.toArray⟩,.slice x.A x.an x.ac,.slice x.B x.bn x.bc] 26)) from(Below.refl _ _).alloc (Nat.le_refl _) _);have HX0:=Hd (Ag.new w 26 #[Aa Ab x.k,Aa Ab x.n,Aa Ac (x.u:Int),.string ⟨x.s.toArray⟩,.slice x.A x.an x.ac,.slice x.B x.bn x.bc]);go_enter Tryz.func3,Tryz.ntmps3;go_upto_region 1 with fail
 generalize w.alloc (.cells #[Aa Ab x.k,Aa Ab x.n,Aa Ac (x.u:Int),.string ⟨x.s.toArray⟩,.slice x.A x.an x.ac,.slice x.B x.bn x.bc] 26)=w1 at HB0 HX0⊢;generalize hbt:w.heap.size=bt at HX0⊢;clear hbt;go_wp2_with fail;go_at_call 11;refine(Qv _).mono ?_;rintro e w2 ⟨rfl,hb⟩;have HB1:=Hd (Ad HB0.o hb);have HX1:=Hd (HX0.o.pure hb);have HC1:=Hd (HCUT.o w2 HB1.o);clear hb HB0 HX0;obtain ⟨x0,x1,x2,x3,x4,x5⟩:=HX1.o.c6;go_wp2_with fail;go_at_call 13;refine HC1.o.mono ?_;rintro e w3 ⟨y,rfl,hN3,hb3⟩;have HN3:=Hd (show Bm w3 (fun b=>b<w3.heap.size) y T from hN3.mono fun b hb=>hb.2);have HB3:=Hd (Ad HB1.o hb3);clear hN3 hb3 x0 x1 x2 x3 x4 x5 HX1 HC1 HB1;have HBD:=Hd (Ak5 fl HN3.o (fun k hk=>hk) HCO.o HE.o.1 HE.o.2);go_wp2_with fail;go_at_call 12;refine HBD.o.mono ?_;rintro e w5 ⟨rfl,hb⟩;have HB5:=Hd (Ad HB3.o hb);clear hb;go_wp2_with fail;go_ret;exact⟨rfl,HB5.o⟩
theorem Ajj(x:Nv)(T:Tr)(fl:Int)(w:World)(hC:∀W,Below w.heap.size w W→Calls Tryz.prog 13 #[.agg #[Aa Ab x.k,Aa Ab x.n,Aa Ac (x.u:Int),.string ⟨x.s.toArray⟩,.slice x.A x.an x.ac,.slice x.B x.bn x.bc],Aa Ab 80,Aa Ab 300] W (Y2 W T))(hN:F8 T)(hc:T.cost≤65000)(hp:(Tr.pre 0 T).length≤80)(he:(Hk Ha 0 T 0).1=0):
  Calls Tryz.prog 3 #[.agg #[Aa Ab x.k,Aa Ab x.n,Aa Ac (x.u:Int),.string ⟨x.s.toArray⟩,.slice x.A x.an x.ac,.slice x.B x.bn x.bc],Aa Ab fl] w fun e w'=>e= .returned (.bool true)∧Below w.heap.size w w':=by
 have hv:=Lo Qc T 0 0 he;obtain⟨b,v,yw,ed,hrep,hyw,hfit,hlw,hleg,hvw,hkd,hbl⟩:=Aoc (bits fl) hv hc;have hcn:=Ado T 0 hv;have hmin:=Acs (fuel:=2000) hv hN hrep hyw hbl hfit hlw (by rw [Zm T hv];omega);have hlen:=Ss [] b v yw;have h8:=Jm b (B5.2 (B5.1 hyw));have h9:yw≤8:=by rcases B5.1 hyw with h|h|h|h <;>omega
 simp only [List.nil_append,List.length_nil] at hlen;have HCUT:=Hd hC;have HCO:=Hd (And.intro hc he);have HNT:=Hd hN;have HMI:=Hd hmin;have HLN:=Hd (show(Di b v yw).length≤65100 by omega);have HD:=Hd ed;clear hC hN hc hp he hv hrep hyw hfit hlw hleg hvw hkd hbl hcn hmin hlen h8 h9 ed;have HB0:=Hd (show Below w.heap.size w (w.alloc (.cells #[Aa Ab x.k,Aa Ab x.n,Aa Ac (x.u:Int),.string ⟨x.s.toArray⟩,.slice x.A x.an x.ac,.slice x.B x.bn x.bc] 26)) from(Below.refl _ _).alloc (Nat.le_refl _) _);have HX0:=Hd (Ag.new w 26 #[Aa Ab x.k,Aa Ab x.n,Aa Ac (x.u:Int),.string ⟨x.s.toArray⟩,.slice x.A x.an x.ac,.slice x.B x.bn x.bc]);go_enter Tryz.func3,Tryz.ntmps3;go_upto_region 1 with fail
 generalize w.alloc (.cells #[Aa Ab x.k,Aa Ab x.n,Aa Ac (x.u:Int),.string ⟨x.s.toArray⟩,.slice x.A x.an x.ac,.slice x.B x.bn x.bc] 26)=w1 at HB0 HX0⊢;generalize hbt:w.heap.size=bt at HX0⊢;clear hbt;go_wp2_with fail;go_at_call 11;refine(Qv _).mono ?_;rintro e w2 ⟨rfl,hb⟩;have HB1:=Hd (Ad HB0.o hb);have HX1:=Hd (HX0.o.pure hb);have HC1:=Hd (HCUT.o w2 HB1.o);clear hb HB0 HX0;obtain ⟨x0,x1,x2,x3,x4,x5⟩:=HX1.o.c6;go_wp2_with fail;go_at_call 13;refine HC1.o.mono ?_;rintro e w3 ⟨y,rfl,hN3,hb3⟩;have HN3:=Hd (show Bm w3 (fun b=>b<w3.heap.size) y T from hN3.mono fun b hb=>hb.2);have HB3:=Hd (Ad HB1.o hb3);clear hN3 hb3 x0 x1 x2 x3 x4 x5 HX1 HC1 HB1;have HBD:=Hd (Ak6 fl HN3.o (fun k hk=>hk) HNT.o HCO.o.1 HCO.o.2);rw [HD.o] at HBD;go_wp2_with fail;go_at_call 12;refine HBD.o.mono ?_;rintro e w5 ⟨A,n,c,rfl,hO,hb⟩;have hcap:=hO.cap.1;have hnl:=hO.is.1;have hll:=HLN.o;have HI5:=Hd hO.is;have HB5:=Hd (Ad HB3.o hb);have HCK:=Hd (Pq A n c 2000 (Di b v yw) w5 hO.is hcap (by omega) (by decide));rw [HMI.o] at HCK;clear hb hO hcap hnl hll;go_wp2_with fail;go_at_call 14;refine HCK.o.mono ?_;rintro e w6 ⟨rfl,hb⟩;have HB6:=Hd (Ad HB5.o hb);clear hb;go_wp2_with fail;go_ret;exact⟨rfl,HB6.o⟩
theorem Ac8(x:Nv)(t:Tr)(fl:Int)(w:World)(h:G2 w x t)(hN:F8 t):Calls Tryz.prog 3 #[.agg #[Aa Ab x.k,Aa Ab x.n,Aa Ac (x.u:Int),.string ⟨x.s.toArray⟩,.slice x.A x.an x.ac,.slice x.B x.bn x.bc],Aa Ab fl] w fun e w'=>e= .returned (.bool true)∧Below w.heap.size w w':=by
 obtain⟨T,hC,hT,hc,hv,hp⟩:=Ah8 300 79 h hN (by omega);by_cases he:(Hk Ha 0 T 0).1=0
 ·exact Ajj x T fl w hC hT (hv (Lo Qc T 0 0 he)) hp he
 ·exact Aji x T fl _ w hC hc rfl he
end Go.Proofs.YtgbjodnegkbfoaaGreat
namespace Go.Proofs.YtgbjodnegkbfoaaGreat
open Go.RowKit Go.Acc Go.ChangeShapes Go.WideShapes Go.ChangeAt
theorem minimalBuilt_run{H:Type}{enc:TypeId×Value→H}{v0 v1:Value}{d0 d1:DataW H}{p0 p1:List MemPlace}(W:World)(base:Nat)(k0:Value.okWide Tryz.prog W .any base 26 v0)(k1:Value.okWide Tryz.prog W .any base 3 v1)
  (h0:DataW.Trod enc Tryz.prog W 0 (fun _=>true) true 26 v0 d0 p0) (h1:DataW.Trod enc Tryz.prog W 0 (fun _=>true) true 3 v1 d1 p1):
  Calls Tryz.prog 3 #[v0,v1] W fun e w'=>e= .returned (.bool true)∧Below W.heap.size W w':=by
 obtain⟨x,t,rfl,hI,hN⟩:=Amc k0 h0;obtain⟨fl,rfl,_⟩:=Aoh k1 h1;exact Ac8 x t fl W hI hN
theorem minimalBuilt_lifted(os:Os)(started:os.Started)(H:Type)(enc:TypeId×Value→H):
  ReturnsInHanded {} Tryz.checked os 3 .any (Rows.minimalBuiltSpec.pre6 enc Tryz.prog Tryz.f3 Rows.minimalBuiltRow.domain false) (Rows.minimalBuiltSpec.post enc Tryz.prog Tryz.f3 false true false false):=by
 refine returnsInHanded_of_change (C:=Tryz.checked) An4 started (by kernel_rfl) Tryz.func3
  (ChangeSpec.witness6 (enc:=enc) (C:=Tryz.checked) false ⟨#[],#[.agg #[Aa Ab 0,Aa Ab 0,Aa Ac 0,.string ⟨#[]⟩,.slice none 0 0,.slice none 0 0],Aa Ab 0],[]⟩ 8 (by kernel_rfl) (by kernel_rfl) (by kernel_rfl) (by kernel_rfl)) ?_
 intro W base args ds gs before hval0 hW hcnd _;have hval:∀(j:Nat) t v,Tryz.f3.params[j]?=some t→args[j]?=some v→Value.okWide Tryz.prog W .any base t v:=hval0;have hW':=hW;obtain⟨p,q,hA0,hV,rfl,hfz,hnd⟩:=hW;have hA:DataW.TrodAll enc Tryz.prog W 0 (fun _=>true) true Tryz.f3.params.toList args.toList ds p:=hA0;rw [Tryz.params3] at hA;rw [Tryz.params3] at hval;obtain⟨v0,vs0,d0,ds0,p0,q0,hargs,rfl,rfl,h0,r0⟩:=trodAll_cons hA;obtain⟨v1,vs1,d1,ds1,p1,q1,rfl,rfl,rfl,h1,r1⟩:=trodAll_cons r0;obtain⟨rfl,rfl,rfl⟩:=trodAll_nil r1;obtain rfl:args=#[v0,v1]:=by cases args;simp_all
 obtain⟨rfl,rfl⟩:=trodVars_none hV;have k0:=hval 0 26 v0 rfl rfl;have k1:=hval 1 3 v1 rfl rfl;clear hA0 hval0;refine(minimalBuilt_run (enc:=enc) W base k0 k1 h0 h1).mono fun e W' ⟨he,bel⟩=>?_
 subst he;exact⟨_,rfl,_,_,_,[],_,[],hW',trodAll_mk1 (shut_bool Tryz.underlying4 _),(trodAll_cons_mk (Xh Nd (by kernel_rfl) (of_decide_eq_true (by kernel_rfl)) h0 bel) (trodAll_cons_mk (Xh Nd (by kernel_rfl) (of_decide_eq_true (by kernel_rfl)) h1 bel) trodAll_mk0)),rfl,bel.frame _,fun h=>by cases h⟩
theorem U8:laidOutB Tryz.prog=true:=by kernel_rfl
theorem U9:mapsRowed Tryz.prog=true:=by kernel_rfl
theorem Va:(Rows.minimalBuiltRow.inPlace==Tryz.prog.inPlace 3)=true:=by kernel_rfl
theorem Vb:(Rows.minimalBuiltRow.unfollowed==Tryz.prog.unfollowed 3)=true:=by kernel_rfl
theorem Vc:(Rows.minimalBuiltRow.recurses==Tryz.prog.recurses 3)=true:=by kernel_rfl
theorem Vd:(Rows.minimalBuiltRow.named==Tryz.prog.varsNamed 3)=true:=by kernel_rfl
theorem Pr:joinedFacts Tryz.prog 3 Tryz.f3 Rows.minimalBuiltSpec Rows.minimalBuiltRow=true:=by
 unfold joinedFacts;rw [U8,U9,Va,Vb,Vc,Vd]
 kernel_rfl
theorem minimalBuilt_holds:Rows.MinimalBuiltSaid:=
 OpenClaim.holds_of_wide 3 Tryz.f3 rfl rfl rfl rfl rfl rfl rfl ⟨rfl,rfl,rfl,rfl,rfl⟩ rfl rfl rfl rfl rfl (by kernel_rfl) Tryz.func3 Pr
  (of_decide_eq_true (by kernel_rfl)) (by unfold Func.isWrapper;rw [if_neg (of_decide_eq_false (by kernel_rfl))];exact⟨rfl,rfl⟩)
  (fun os started H enc _=>minimalBuilt_lifted os started H enc)
#print axioms minimalBuilt_holds
end Go.Proofs.YtgbjodnegkbfoaaGreat
