/- CoverCounts: count, the number of a tree's nodes, keys and maps. CoverCounts, the walk. CoverCounts: for every tree, in a document built without sharing the fuel needed is the number of nodes, keys and maps. No conditions. -/
import Derived.Test.YtgbjodnegkbfoaaGreatQa37
set_option maxHeartbeats 4000000
set_option maxRecDepth 100000
open Go.Value renaming int→Aa
open Go.IntKind renaming i64→Ab,u64→Ac
open Nat renaming le_refl→Ath
open List renaming getElem?_eq_getElem→Ati,take_of_length_le→Att
namespace Go.Proofs.YtgbjodnegkbfoaaGreat
open Go.RowKit Go.Acc
theorem Xj{l:List Tr}{k:Nat}{t:Tr}(h:l[k]?=some t):Tr.cntL (l.take (k+1))=Tr.cntL (l.take k)+t.cnt∧Tr.cntL (l.take k)+t.cnt≤Tr.cntL l:=by
 have app:∀a b:List Tr,Tr.cntL (a++b)=Tr.cntL a+Tr.cntL b:=by
  intro a
  induction a with
  |nil=>intro b;simp [Tr.cntL]
  |cons x r ih=>intro b;rw [List.cons_append,Tr.cntL,Tr.cntL,ih,Nat.add_assoc]
 obtain⟨hk,e⟩:=List.getElem?_eq_some_iff.1 h;have e1:l.take (k+1)=l.take k++ [t]:=by rw [List.take_succ_eq_append_getElem hk,e]
 have e2:Tr.cntL (l.take (k+1))=Tr.cntL (l.take k)+t.cnt:=by rw [e1,app];simp [Tr.cntL]
 refine⟨e2,?_⟩;have e3:=app (l.take (k+1)) (l.drop (k+1));rw [List.take_append_drop] at e3;omega
theorem Agc{w0:World}{p:Nat→Prop}{x:Nv}{t:Tr}(h:Bk w0 p x t):(∀k,p k→k<w0.heap.size)→t.cnt≤100000→∀w,Below w0.heap.size w0 w→Calls Tryz.prog 24 #[.agg #[Aa Ab x.k,Aa Ab x.n,Aa Ac (x.u:Int),.string ⟨x.s.toArray⟩,.slice x.A x.an x.ac,.slice x.B x.bn x.bc]] w fun e w'=>e= .returned (Aa Ab (t.cnt:Int))∧Below w.heap.size w w':=by
 induction h with
 | @mk x ks l vs h1 ha hac hx h2 hb hbc hy hl hc ih=>
  intro hp hcn w hw;obtain⟨xk,xn,xu,xs,XA,xan,xac,XB,xbn,xbc⟩:=x;have hks_:ks.length=xan:=h1.1;have HKS:=Hd hks_;have hvl:vs.length=xbn:=h2.1;have hcn:Tr.cnt (.mk xk xn xu xs ks l)≤100000:=hcn;have hHC:=hcn;rw [Tr.cnt] at hHC;have HIN:=Hd (h2.pure hw);have HIH:=Hd (fun(i:Nat) v t' (a:vs[i]?=some v) (b:l[i]?=some t') (c:t'.cnt≤100000) (W:World) (d:Below w0.heap.size w0 W)=>ih i v t' a b hp c W d);have HWW:=Hd hw;have HVL:=Hd (And.intro hvl hl);have HB:=Hd (show Below w.heap.size w (w.alloc (.cells #[Aa Ab xk,Aa Ab xn,Aa Ac (xu:Int),.string ⟨xs.toArray⟩,.slice XA xan xac,.slice XB xbn xbc] 26)) from(Below.refl _ _).alloc (Ath _) _);have HX:=Hd (Af.new w 26 #[Aa Ab xk,Aa Ab xn,Aa Ac (xu:Int),.string ⟨xs.toArray⟩,.slice XA xan xac,.slice XB xbn xbc]);obtain⟨base,hbase⟩:∃b:Nat,(if xk=17 then 2+ks.length else 1)=b:=⟨_,rfl⟩;rw [hbase] at hHC;have HHC:=Hd hHC;have HBS:=Hd hbase;have hcb:base≤100000:=by omega
  have hRet:Tr.cnt (.mk xk xn xu xs ks l)=base+Tr.cntL l:=by rw [Tr.cnt,hbase]
  show Calls Tryz.prog 24 #[.agg #[Aa Ab xk,Aa Ab xn,Aa Ac (xu:Int),.string ⟨xs.toArray⟩,.slice XA xan xac,.slice XB xbn xbc]] w fun e w'=>e= .returned (Aa Ab ((Tr.cnt (.mk xk xn xu xs ks l):Nat):Int))∧Below w.heap.size w w'
  rw [hRet];have HLIN:=Hd (show Below w.heap.size w (w.alloc (.cells #[Aa Ab xk,Aa Ab xn,Aa Ac (xu:Int),.string ⟨xs.toArray⟩,.slice XA xan xac,.slice XB xbn xbc] 26)) from HB.o);clear h1 ha hac hx h2 hb hbc hc ih hp hcn hw hHC hRet hvl hl hbase;go_enter Tryz.func24,Tryz.ntmps24;go_upto_region 1 with fail
  generalize w.alloc (.cells #[Aa Ab xk,Aa Ab xn,Aa Ac (xu:Int),.string ⟨xs.toArray⟩,.slice XA xan xac,.slice XB xbn xbc] 26)=w1 at HB HX HLIN⊢;generalize hbt:w.heap.size=bt at HX⊢;have HI1:=Hd (HIN.o.pure HLIN.o);have x0:w1.cell? ⟨bt,0,none⟩=some (Aa Ab xk):=HX.o.cell 0;have x4:w1.cell? ⟨bt,4,none⟩=some (.slice XA xan xac):=HX.o.cell 4;have x5:w1.cell? ⟨bt,5,none⟩=some (.slice XB xbn xbc):=HX.o.cell 5;clear HIN HLIN;have hxb:xbn≤1099511627776:=hy;clear hy hks_;by_cases h17:xk=17
  ·have HBE:=Hd (show((2:Int)+(xan:Int))=(base:Int) by have:=HBS.o;rw [if_pos h17] at this;have:=HKS.o;omega);have hw2:IntKind.i64.wrap ((2:Int)+(xan:Int))=(2:Int)+(xan:Int):=IntWalk.i64_in _ (by have:=HBE.o;omega);have h17b:(xk==17)=true:=by simp [h17]
   clear h17;go_wp2_with fail;go_loopw [3,4] (fun s i wr=>∃k:Nat,k≤xbn∧i= Aa Ab (k:Int)∧s= Aa Ab ((base+Tr.cntL (l.take k):Nat):Int)∧Below w.heap.size w wr∧Af wr bt 26 #[Aa Ab xk,Aa Ab xn,Aa Ac (xu:Int),.string ⟨xs.toArray⟩,.slice XA xan xac,.slice XB xbn xbc]∧Fh wr XB xbn vs) (fun _ i _=>xbn-(intOf i).toNat)
   case atStart=>exact⟨0,Nat.zero_le _,rfl,by rw [List.take_zero,Tr.cntL,Nat.add_zero,←HBE.o],HB.o,HX.o,HI1.o⟩
   case round=>
    clear HB HX HI1 x0 x4 x5;obtain⟨k,hk,rfl,rfl,hb,h1,h2⟩:=hrel;have HB:=Hd hb;have HX:=Hd h1;have HI:=Hd h2;clear hb h1 h2;have x5:wr.cell? ⟨bt,5,none⟩=some (.slice XB xbn xbc):=HX.o.cell 5;by_cases hkn:k<xbn
    ·have hk0:(0:Int)≤k:=by omega
     have hkI:(k:Int)<xbn:=by omega
     have hwk:IntKind.i64.wrap ((k:Int)+1)=(k:Int)+1:=IntWalk.i64_in _ (by omega);obtain⟨v,hv⟩:∃v,vs[k]?=some v:=⟨_,Ati (by have:=HVL.o.1;omega)⟩;obtain⟨t',ht'⟩:∃v,l[k]?=some v:=⟨_,Ati (by have:=HVL.o;omega)⟩;obtain⟨b2,o2,e2,a0,a1,a2,a3,a4,a5⟩:=Gc HI.o hv;obtain⟨t1,t2⟩:=Xj ht';have HC:=Hd (HIH.o k v t' hv ht' (by have:=HHC.o;omega) wr (B6 HWW.o HB.o));have hww:IntKind.i64.wrap (((base+Tr.cntL (l.take k):Nat):Int)+(t'.cnt:Int))=((base+Tr.cntL (l.take (k+1)):Nat):Int):=by
      rw [t1,show((base+Tr.cntL (l.take k):Nat):Int)+(t'.cnt:Int)=((base+(Tr.cntL (l.take k)+t'.cnt):Nat):Int) by omega];exact IntWalk.i64_in _ (by have:=HHC.o;omega)
     subst e2;clear hv ht' t1 t2;generalize hs2:((base+Tr.cntL (l.take (k+1)):Nat):Int)=s2 at hww⊢;have HS2:=Hd hs2;clear hs2;generalize ((base+Tr.cntL (l.take k):Nat):Int)=s1 at hww⊢;go_wp2_with fail;go_at_call 24;refine HC.o.mono ?_;rintro e w5 ⟨rfl,hb⟩;have HB5:=Hd (Ad HB.o hb);have HX5:=Hd (HX.o.pure hb);have HI5:=Hd (HI.o.pure hb);clear hb HC;go_wp2_with fail;go_roundw
     case rel=>exact⟨k+1,by omega,by go_num,by rw [HS2.o],HB5.o,HX5.o,HI5.o⟩
     case measure=>simp [intOf];omega
    ·obtain rfl:k=xbn:=by omega
     have hfin:l.take k=l:=Att (by have:=HVL.o;omega);rw [hfin];go_wp2_with fail;go_ret;exact⟨by norm_cast,HB.o⟩
  ·have HBE:=Hd (show(1:Int)=(base:Int) by have:=HBS.o;rw [if_neg h17] at this;omega);have hne:(xk==17)=false:=beq_eq_false_iff_ne.mpr h17;go_wp2_with fail;go_loopw [3,4] (fun s i wr=>∃k:Nat,k≤xbn∧i= Aa Ab (k:Int)∧s= Aa Ab ((base+Tr.cntL (l.take k):Nat):Int)∧Below w.heap.size w wr∧Af wr bt 26 #[Aa Ab xk,Aa Ab xn,Aa Ac (xu:Int),.string ⟨xs.toArray⟩,.slice XA xan xac,.slice XB xbn xbc]∧Fh wr XB xbn vs) (fun _ i _=>xbn-(intOf i).toNat)
   case atStart=>exact⟨0,Nat.zero_le _,rfl,by rw [List.take_zero,Tr.cntL,Nat.add_zero,←HBE.o],HB.o,HX.o,HI1.o⟩
   case round=>
    clear HB HX HI1 x0 x4 x5;obtain⟨k,hk,rfl,rfl,hb,h1,h2⟩:=hrel;have HB:=Hd hb;have HX:=Hd h1;have HI:=Hd h2;clear hb h1 h2;have x5:wr.cell? ⟨bt,5,none⟩=some (.slice XB xbn xbc):=HX.o.cell 5;by_cases hkn:k<xbn
    ·have hk0:(0:Int)≤k:=by omega
     have hkI:(k:Int)<xbn:=by omega
     have hwk:IntKind.i64.wrap ((k:Int)+1)=(k:Int)+1:=IntWalk.i64_in _ (by omega);obtain⟨v,hv⟩:∃v,vs[k]?=some v:=⟨_,Ati (by have:=HVL.o.1;omega)⟩;obtain⟨t',ht'⟩:∃v,l[k]?=some v:=⟨_,Ati (by have:=HVL.o;omega)⟩;obtain⟨b2,o2,e2,a0,a1,a2,a3,a4,a5⟩:=Gc HI.o hv;obtain⟨t1,t2⟩:=Xj ht';have HC:=Hd (HIH.o k v t' hv ht' (by have:=HHC.o;omega) wr (B6 HWW.o HB.o));have hww:IntKind.i64.wrap (((base+Tr.cntL (l.take k):Nat):Int)+(t'.cnt:Int))=((base+Tr.cntL (l.take (k+1)):Nat):Int):=by
      rw [t1,show((base+Tr.cntL (l.take k):Nat):Int)+(t'.cnt:Int)=((base+(Tr.cntL (l.take k)+t'.cnt):Nat):Int) by omega];exact IntWalk.i64_in _ (by have:=HHC.o;omega)
     subst e2;clear hv ht' t1 t2;generalize hs2:((base+Tr.cntL (l.take (k+1)):Nat):Int)=s2 at hww⊢;have HS2:=Hd hs2;clear hs2;generalize ((base+Tr.cntL (l.take k):Nat):Int)=s1 at hww⊢;go_wp2_with fail;go_at_call 24;refine HC.o.mono ?_;rintro e w5 ⟨rfl,hb⟩;have HB5:=Hd (Ad HB.o hb);have HX5:=Hd (HX.o.pure hb);have HI5:=Hd (HI.o.pure hb);clear hb HC;go_wp2_with fail;go_roundw
     case rel=>exact⟨k+1,by omega,by go_num,by rw [HS2.o],HB5.o,HX5.o,HI5.o⟩
     case measure=>simp [intOf];omega
    ·obtain rfl:k=xbn:=by omega
     have hfin:l.take k=l:=Att (by have:=HVL.o;omega);rw [hfin];go_wp2_with fail;go_ret;exact⟨by norm_cast,HB.o⟩
theorem Agd{T:Tr}(hv:Ff T)(hN:Fb T)(hc:T.cost≤65000):Cb (E0 0 (Aq (Aq T))) ((Aq T).cnt:Int)=0∧Cb (E0 0 (Aq (Aq T))) (((Aq T).cnt:Int)-1)=260∧(E0 0 (Aq (Aq T))).length≤65100:=by
 have hv':=P1 hv;obtain⟨L,hT,hlen,_,hns,hok,hall⟩:=Xr hv' (Pn hN) (by rw [Ij T hv];exact hc) 0 (fun h=>absurd h (by decide));have hns:=hns rfl;rw [Yh _ hv',Tq _ hv'] at hns;rw [Mo _ hv'] at hok;have h0:=hok ((Aq T).cnt:Int) (Int.le_refl _);refine⟨h0,?_,hlen⟩;by_cases h:Cb (E0 0 (Aq (Aq T))) (((Aq T).cnt:Int)-1)=260
 ·exact h
 ·exfalso;obtain⟨h1,_⟩:=Aja _ (((Aq T).cnt:Int)-1) ((Aq T).cnt:Int) (by omega) h;rw [h0] at h1;obtain⟨_,h2⟩:=hall _ h1.symm;omega
theorem Air(x:Nv)(T:Tr)(er:Int)(w:World)(hC:∀W,Below w.heap.size w W→Calls Tryz.prog 13 #[.agg #[Aa Ab x.k,Aa Ab x.n,Aa Ac (x.u:Int),.string ⟨x.s.toArray⟩,.slice x.A x.an x.ac,.slice x.B x.bn x.bc],Aa Ab 60,Aa Ab 40] W (Ng W T))(hc:Ou T)(he:(Fa F6 0 T 0).1=er)(hne:er≠0):
  Calls Tryz.prog 6 #[.agg #[Aa Ab x.k,Aa Ab x.n,Aa Ac (x.u:Int),.string ⟨x.s.toArray⟩,.slice x.A x.an x.ac,.slice x.B x.bn x.bc]] w fun e w'=>e= .returned (.bool true)∧Below w.heap.size w w':=by
 have HCUT:=Hd hC;have HFK:=Hd hc;have HE:=Hd (And.intro he hne);clear hC hc he hne;have HB1:=Hd (show Below w.heap.size w (w.alloc (.cells #[Aa Ab x.k,Aa Ab x.n,Aa Ac (x.u:Int),.string ⟨x.s.toArray⟩,.slice x.A x.an x.ac,.slice x.B x.bn x.bc] 26)) from(Below.refl _ _).alloc (Ath _) _);have HX1:=Hd (Af.new w 26 #[Aa Ab x.k,Aa Ab x.n,Aa Ac (x.u:Int),.string ⟨x.s.toArray⟩,.slice x.A x.an x.ac,.slice x.B x.bn x.bc]);go_enter Tryz.func6,Tryz.ntmps6;go_upto_region 1 with fail
 generalize w.alloc (.cells #[Aa Ab x.k,Aa Ab x.n,Aa Ac (x.u:Int),.string ⟨x.s.toArray⟩,.slice x.A x.an x.ac,.slice x.B x.bn x.bc] 26)=w2 at HB1 HX1⊢;generalize hbt:w.heap.size=bt at HX1⊢;clear hbt;obtain ⟨x0,x1,x2,x3,x4,x5⟩:=HX1.o.c6;go_wp2_with fail;go_at_call 22;refine(Zs x T 0 er w2 (fun W hW=>HCUT.o W (B6 HB1.o hW)) HFK.o HE.o.1 HE.o.2).mono ?_;rintro e w3 ⟨rfl,hb⟩;have HB3:=Hd (Ad HB1.o hb);have HB4:=Hd (HB3.o.alloc HB3.o.size (.cells #[Aa Ab 0,Aa Ab 0,Aa Ac 0,.string ⟨#[]⟩,.slice none 0 0,.slice none 0 0] 26));clear hb x0 x1 x2 x3 x4 x5 HX1;go_wp2_with fail;go_at_call 21;refine(Kf _).mono ?_;rintro e w5 ⟨rfl,hb⟩;have HB5:=Hd (Ad HB4.o hb);clear hb;go_wp2_with fail;go_ret;exact⟨rfl,HB5.o⟩
theorem Ais(x:Nv)(T:Tr)(w:World)(hC:∀W,Below w.heap.size w W→Calls Tryz.prog 13 #[.agg #[Aa Ab x.k,Aa Ab x.n,Aa Ac (x.u:Int),.string ⟨x.s.toArray⟩,.slice x.A x.an x.ac,.slice x.B x.bn x.bc],Aa Ab 60,Aa Ab 40] W (Ng W T))(hN:Fb T)(hc:T.cost≤65000)(hp:(Tr.pre 0 T).length≤60)(he:(Fa F6 0 T 0).1=0):
  Calls Tryz.prog 6 #[.agg #[Aa Ab x.k,Aa Ab x.n,Aa Ac (x.u:Int),.string ⟨x.s.toArray⟩,.slice x.A x.an x.ac,.slice x.B x.bn x.bc]] w fun e w'=>e= .returned (.bool true)∧Below w.heap.size w w':=by
 have hv:=H0 Kg T 0 0 he;have hcn:=V1 T 0 hv;rw [←Mo T hv] at hcn;obtain⟨q1,q2,q3⟩:=Agd hv hN hc;have HCUT:=Hd hC;have HNT:=Hd hN;have HCO:=Hd (And.intro hc he);have HCN:=Hd (show(Aq T).cnt≤1000 by omega);have HQ:=Hd (And.intro q1 (And.intro q2 q3));clear hC hN hc hp he hv hcn q1 q2 q3;have HB1:=Hd (show Below w.heap.size w (w.alloc (.cells #[Aa Ab x.k,Aa Ab x.n,Aa Ac (x.u:Int),.string ⟨x.s.toArray⟩,.slice x.A x.an x.ac,.slice x.B x.bn x.bc] 26)) from(Below.refl _ _).alloc (Ath _) _);have HX1:=Hd (Af.new w 26 #[Aa Ab x.k,Aa Ab x.n,Aa Ac (x.u:Int),.string ⟨x.s.toArray⟩,.slice x.A x.an x.ac,.slice x.B x.bn x.bc]);go_enter Tryz.func6,Tryz.ntmps6;go_upto_region 1 with fail
 generalize w.alloc (.cells #[Aa Ab x.k,Aa Ab x.n,Aa Ac (x.u:Int),.string ⟨x.s.toArray⟩,.slice x.A x.an x.ac,.slice x.B x.bn x.bc] 26)=w2 at HB1 HX1⊢;generalize hbt:w.heap.size=bt at HX1⊢;clear hbt;obtain ⟨x0,x1,x2,x3,x4,x5⟩:=HX1.o.c6;go_wp2_with fail;go_at_call 22;refine(Zt x T 0 w2 (fun W hW=>HCUT.o W (B6 HB1.o hW)) HNT.o HCO.o.1 HCO.o.2).mono ?_;rintro e w3 ⟨z,A,n,c,f,rfl,_,hf0,hN3,hO,hb⟩;obtain rfl:=hf0 rfl;obtain⟨q1,q2,q3⟩:=HQ.o;generalize E0 0 (Aq (Aq T))=l at hO q1 q2 q3;have hal:=(Below.refl w3.heap.size w3).alloc (Ath _) (.cells #[Aa Ab z.k,Aa Ab z.n,Aa Ac (z.u:Int),.string ⟨z.s.toArray⟩,.slice z.A z.an z.ac,.slice z.B z.bn z.bc] 26);have HB3:=Hd ((Ad HB1.o hb).alloc (Ad HB1.o hb).size (.cells #[Aa Ab z.k,Aa Ab z.n,Aa Ac (z.u:Int),.string ⟨z.s.toArray⟩,.slice z.A z.an z.ac,.slice z.B z.bn z.bc] 26));have HI3:=Hd (hO.is.pure hal);have HZ3:=Hd (Af.new w3 26 #[Aa Ab z.k,Aa Ab z.n,Aa Ac (z.u:Int),.string ⟨z.s.toArray⟩,.slice z.A z.an z.ac,.slice z.B z.bn z.bc]);have HCT:=Hd (Agc hN3 (fun k hk=>hk) (by have:=HCN.o;omega) _ hal);have hca:=hO.cap.1;have hn65:n≤65100:=by have:=hO.is.1;omega
 generalize hcnt:(Aq T).cnt=N at q1 q2 HCT;have hN1:N≤1000:=by have:=HCN.o;omega
 have HQ2:=Hd (And.intro q1 q2);clear hb hO x0 x1 x2 x3 x4 x5 HX1 hal hf0 hN3 q1 q2 q3 hcnt;go_upto_region 2 with fail
 generalize w3.alloc (.cells #[Aa Ab z.k,Aa Ab z.n,Aa Ac (z.u:Int),.string ⟨z.s.toArray⟩,.slice z.A z.an z.ac,.slice z.B z.bn z.bc] 26)=w4 at HB3 HI3 HZ3 HCT⊢;generalize w3.heap.size=bz at HZ3⊢;obtain ⟨z0,z1,z2,z3,z4,z5⟩:=HZ3.o.c6;go_wp2_with fail;go_at_call 24;refine HCT.o.mono ?_;rintro e w5 ⟨rfl,hb⟩;have HB5:=Hd (Ad HB3.o hb);have HI5:=Hd (HI3.o.pure hb);have HP1:=Hd (Ma A n c (N:Int) l w5 (HI3.o.pure hb) hca (by omega) (by omega));rw [HQ2.o.1] at HP1;clear hb z0 z1 z2 z3 z4 z5 HZ3 HCT HB3 HI3;go_wp2_with fail;go_at_call 23;refine HP1.o.mono ?_;rintro e w6 ⟨A2,k2,c2,rfl,hO2,hb⟩;have HB6:=Hd (Ad HB5.o hb);have HP2:=Hd (Ma A n c ((N:Int)-1) l w6 (HI5.o.pure hb) hca (by omega) (by omega));rw [HQ2.o.2] at HP2;have hwn:IntKind.i64.wrap ((N:Int)-1)=(N:Int)-1:=IntWalk.i64_in _ (by omega);clear hb hO2 HP1 HB5 HI5;go_wp2_with fail;go_at_call 23;refine HP2.o.mono ?_;rintro e w7 ⟨A3,k3,c3,rfl,hO3,hb⟩;have HB7:=Hd (Ad HB6.o hb);clear hb hO3 HP2 HB6;go_wp2_with fail;go_at_call 21;refine(Kf _).mono ?_;rintro e w8 ⟨rfl,hb⟩;have HB8:=Hd (Ad HB7.o hb);clear hb;go_wp2_with fail;go_ret;exact⟨rfl,HB8.o⟩
theorem Ac8(x:Nv)(t:Tr)(w:World)(h:G5 w x t)(hN:Fb t):Calls Tryz.prog 6 #[.agg #[Aa Ab x.k,Aa Ab x.n,Aa Ac (x.u:Int),.string ⟨x.s.toArray⟩,.slice x.A x.an x.ac,.slice x.B x.bn x.bc]] w fun e w'=>e= .returned (.bool true)∧Below w.heap.size w w':=by
 obtain⟨T,hC,hT,hc,hv,hp⟩:=Xq 40 59 h hN (by omega);by_cases he:(Fa F6 0 T 0).1=0
 ·exact Ais x T w hC hT (hv (H0 Kg T 0 0 he)) hp he
 ·exact Air x T _ w hC hc rfl he
end Go.Proofs.YtgbjodnegkbfoaaGreat
namespace Go.Proofs.YtgbjodnegkbfoaaGreat
open Go.RowKit Go.Acc Go.ChangeShapes Go.WideShapes Go.ChangeAt
theorem coverCounts_run{H:Type}{enc:TypeId×Value→H}{v0:Value}{d0:DataW H}{p0:List MemPlace}(W:World)(base:Nat)(k0:Value.okWide Tryz.prog W .any base 26 v0)
  (h0:DataW.Trod enc Tryz.prog W 0 (fun _=>true) true 26 v0 d0 p0):
  Calls Tryz.prog 6 #[v0] W fun e w'=>e= .returned (.bool true)∧Below W.heap.size W w':=by
 obtain⟨x,t,rfl,hI,hN⟩:=Abo k0 h0;exact Ac8 x t W hI hN
theorem coverCounts_lifted(os:Os)(started:os.Started)(H:Type)(enc:TypeId×Value→H):
  ReturnsInHanded {} Tryz.checked os 6 .any (Rows.coverCountsSpec.pre6 enc Tryz.prog Tryz.f6 Rows.coverCountsRow.domain false) (Rows.coverCountsSpec.post enc Tryz.prog Tryz.f6 false true false false):=by
 refine returnsInHanded_of_change (C:=Tryz.checked) Ad4 started (by kernel_rfl) Tryz.func6
  (ChangeSpec.witness6 (enc:=enc) (C:=Tryz.checked) false ⟨#[],#[.agg #[Aa Ab 0,Aa Ab 0,Aa Ac 0,.string ⟨#[]⟩,.slice none 0 0,.slice none 0 0]],[]⟩ 8 (by kernel_rfl) (by kernel_rfl) (by kernel_rfl) (by kernel_rfl)) ?_
 intro W base args ds gs before hval0 hW hcnd _;have hval:∀(j:Nat) t v,Tryz.f6.params[j]?=some t→args[j]?=some v→Value.okWide Tryz.prog W .any base t v:=hval0;have hW':=hW;obtain⟨p,q,hA0,hV,rfl,hfz,hnd⟩:=hW;have hA:DataW.TrodAll enc Tryz.prog W 0 (fun _=>true) true Tryz.f6.params.toList args.toList ds p:=hA0;rw [Tryz.params6] at hA;rw [Tryz.params6] at hval;obtain⟨v0,vs0,d0,ds0,p0,q0,hargs,rfl,rfl,h0,r0⟩:=trodAll_cons hA;obtain⟨rfl,rfl,rfl⟩:=trodAll_nil r0;obtain rfl:args=#[v0]:=by cases args;simp_all
 obtain⟨rfl,rfl⟩:=trodVars_none hV;have k0:=hval 0 26 v0 rfl rfl;clear hA0 hval0;refine(coverCounts_run (enc:=enc) W base k0 h0).mono fun e W' ⟨he,bel⟩=>?_
 subst he;exact⟨_,rfl,_,_,_,[],_,[],hW',trodAll_mk1 (shut_bool Tryz.underlying4 _),(trodAll_cons_mk (Ql Ld (by kernel_rfl) (of_decide_eq_true (by kernel_rfl)) h0 bel) trodAll_mk0),rfl,bel.frame _,fun h=>by cases h⟩
theorem V5:laidOutB Tryz.prog=true:=by kernel_rfl
theorem V6:mapsRowed Tryz.prog=true:=by kernel_rfl
theorem V7:(Rows.coverCountsRow.inPlace==Tryz.prog.inPlace 6)=true:=by kernel_rfl
theorem V8:(Rows.coverCountsRow.unfollowed==Tryz.prog.unfollowed 6)=true:=by kernel_rfl
theorem V9:(Rows.coverCountsRow.recurses==Tryz.prog.recurses 6)=true:=by kernel_rfl
theorem Wb:(Rows.coverCountsRow.named==Tryz.prog.varsNamed 6)=true:=by kernel_rfl
theorem Qq:joinedFacts Tryz.prog 6 Tryz.f6 Rows.coverCountsSpec Rows.coverCountsRow=true:=by
 unfold joinedFacts;rw [V5,V6,V7,V8,V9,Wb]
 kernel_rfl
theorem coverCounts_holds:Rows.CoverCountsSaid:=
 OpenClaim.holds_of_wide 6 Tryz.f6 rfl rfl rfl rfl rfl rfl rfl ⟨rfl,rfl,rfl,rfl,rfl⟩ rfl rfl rfl rfl rfl (by kernel_rfl) Tryz.func6 Qq
  (of_decide_eq_true (by kernel_rfl)) (by unfold Func.isWrapper;rw [if_neg (of_decide_eq_false (by kernel_rfl))];exact⟨rfl,rfl⟩)
  (fun os started H enc _=>coverCounts_lifted os started H enc)
#print axioms coverCounts_holds
end Go.Proofs.YtgbjodnegkbfoaaGreat
