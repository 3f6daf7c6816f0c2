/- Parts of the proof. -/
import Derived.Test.YtgbjodnegkbfoaaGreatQa14
import Derived.Deep.DeepCutAuto
import Derived.Laws.Bits64b
set_option maxHeartbeats 4000000
set_option maxRecDepth 100000
open Nat renaming le_refl→Ath
open List renaming getElem?_eq_getElem→Ati,append_assoc→Ato
namespace Go.Proofs.YtgbjodnegkbfoaaGreat
open Go.RowKit Go.Acc
theorem Amv(p i n c1 c2:Nat)(A1 A2:Option Addr)(ks:List (List UInt8))(ns:List Nat)(s:List UInt8)(at_:Nat)(w:World)
  (h:Db w p A1 A2 A1 n c1 ks A2 n c2 ns (.slice A1 n c1) (.slice A2 n c2) w) (hi:i≤n) (hn:n≤1048575):
  Calls Tryz.prog 383 #[.pointer (some ⟨p,0,none⟩),.int .i64 (i:Int),.string ⟨s.toArray⟩,.int .i64 (at_:Int)] w fun e w'=>e= .returned (.tuple #[])∧
   ∃A1' A2' c1' c2',Db w p A1 A2 A1' (n+1) c1' (ks.take i++ [s]++ks.drop i) A2' (n+1) c2' (ns.take i++ [at_]++ns.drop i) (.slice A1' (n+1) c1') (.slice A2' (n+1) c2') w':=by
 have H:=Hd h;clear h;go_enter Tryz.func383,Tryz.ntmps383;go_upto_region 1 with fail
 go_cut [] (fun wx=>∃wy,wy=wx∧∃A1' A2' c1' c2',Db w p A1 A2 A1' (n+1) c1' (ks++ [[]]) A2' (n+1) c2' (ns++ [0]) (.slice A1' (n+1) c1') (.slice A2' (n+1) c2') wx)
 case first=>
  obtain⟨wd,hwd⟩:∃wd,wd=w.drew:=⟨_,rfl⟩;have HW:=Hd (show Db w p A1 A2 A1 n c1 ks A2 n c2 ns (.slice A1 n c1) (.slice A2 n c2) wd by rw [hwd];exact H.o.below (Jh w));have HLT:=Hd (show w.heap.size≤wd.heap.size by rw [hwd];exact(Jh w).size);have HA:=Hd (HW.o.alloc (.cells #[.string ⟨([]:List UInt8).toArray⟩] 9));have HB:=Hd (HW.o.alloc (.cells #[.int .i64 0] 3));have HAB:=Hd (HA.o.alloc (.cells #[.int .i64 0] 3));have HBA:=Hd (HB.o.alloc (.cells #[.string ⟨([]:List UInt8).toArray⟩] 9));have IA:=Hd (Sc wd []);have IB:=Hd (Wg wd);have IAB1:=Hd (IA.o.alloc (.cells #[.int .i64 0] 3));have IBA2:=Hd (IB.o.alloc (.cells #[.string ⟨([]:List UInt8).toArray⟩] 9));have IAB2:=Hd (show Is Jw ((wd.alloc (.cells #[.string ⟨([]:List UInt8).toArray⟩] 9)).alloc (.cells #[.int .i64 0] 3)) (some ⟨wd.heap.size+1,0,none⟩) 1 [0] by rw [←Jq wd (.cells #[.string ⟨([]:List UInt8).toArray⟩] 9)];exact Wg (wd.alloc (.cells #[.string ⟨([]:List UInt8).toArray⟩] 9)));have IBA1:=Hd (show Ey ((wd.alloc (.cells #[.int .i64 0] 3)).alloc (.cells #[.string ⟨([]:List UInt8).toArray⟩] 9)) (some ⟨wd.heap.size+1,0,none⟩) 1 [[]] by rw [←Jq wd (.cells #[.int .i64 0] 3)];exact Sc (wd.alloc (.cells #[.int .i64 0] 3)) []);have HN1:=Hd (show ∀a,A1=some a→a.block<wd.heap.size from fun a e=>(HW.o.o1.addr a e).2.2);have HN2:=Hd (show ∀a,A2=some a→a.block<wd.heap.size from fun a e=>(HW.o.o2.addr a e).2.2);have x0:wd.cell? ⟨p,0,none⟩=some (.slice A1 n c1):=HW.o.blk.cell 0;have x1:wd.cell? ⟨p,1,none⟩=some (.slice A2 n c2):=HW.o.blk.cell 1;have fz0:wd.frozen? ⟨p,0,none⟩=false:=HW.o.blk.frozen 0;have fz1:wd.frozen? ⟨p,1,none⟩=false:=HW.o.blk.frozen 1;subst hwd;have k0:=fun o=>Cn o x0
  have k1:=fun o=>Cn o x1
  have kk0:=fun o o'=>Cn o' (Cn o x0)
  have kk1:=fun o o'=>Cn o' (Cn o x1)
  have m0:∀o,(w.alloc o).drew.cell? ⟨p,0,none⟩=some (.slice A1 n c1):=k0;have m1:∀o,(w.alloc o).drew.cell? ⟨p,1,none⟩=some (.slice A2 n c2):=k1;have mm0:∀o o',((w.alloc o).alloc o').drew.cell? ⟨p,0,none⟩=some (.slice A1 n c1):=kk0;have mm1:∀o o',((w.alloc o).alloc o').drew.cell? ⟨p,1,none⟩=some (.slice A2 n c2):=kk1;go_region_law (first
   |(refine Mh rfl (.tmp 13) (.tmp 14) rfl HA.o rfl (some ⟨w.drew.heap.size,0,none⟩) [] IA.o rfl (by omega) ?_;intro A1' c1' v1 HV1 hf1;have y10:v1.cell? ⟨p,0,none⟩=some (.slice A1 n c1):=HV1.blk.cell 0;have y11:v1.cell? ⟨p,1,none⟩=some (.slice A2 n c2):=HV1.blk.cell 1;have z10:=fun o=>Cn o y10;have z11:=fun o=>Cn o y11;replace HV1:=Hd HV1;clear hf1)
   |(refine Mh rfl (.tmp 13) (.tmp 14) rfl HAB.o rfl (some ⟨w.drew.heap.size,0,none⟩) [] IAB1.o rfl (by omega) ?_;intro A1' c1' v1 HV1 hf1;have y10:v1.cell? ⟨p,0,none⟩=some (.slice A1 n c1):=HV1.blk.cell 0;have y11:v1.cell? ⟨p,1,none⟩=some (.slice A2 n c2):=HV1.blk.cell 1;have z10:=fun o=>Cn o y10;have z11:=fun o=>Cn o y11;replace HV1:=Hd HV1;have IN:=Hd (Pe IAB2.o hf1 HN1.o (Nat.le_succ _));clear hf1)
   |(refine Mh rfl (.tmp 13) (.tmp 14) rfl HBA.o rfl (some ⟨w.drew.heap.size+1,0,none⟩) [] IBA1.o rfl (by omega) ?_;intro A1' c1' v1 HV1 hf1;have y10:v1.cell? ⟨p,0,none⟩=some (.slice A1 n c1):=HV1.blk.cell 0;have y11:v1.cell? ⟨p,1,none⟩=some (.slice A2 n c2):=HV1.blk.cell 1;have z10:=fun o=>Cn o y10;have z11:=fun o=>Cn o y11;replace HV1:=Hd HV1;have IN:=Hd (Pe IBA2.o hf1 HN1.o (Ath _));clear hf1)
   |(refine Mi rfl (.tmp 19) (.tmp 20) rfl HB.o rfl (some ⟨w.drew.heap.size,0,none⟩) 0 IB.o rfl (by omega) ?_;intro A2' c2' v2 HV2 hf2;have y20:v2.cell? ⟨p,0,none⟩=some (.slice A1 n c1):=HV2.blk.cell 0;have y21:v2.cell? ⟨p,1,none⟩=some (.slice A2 n c2):=HV2.blk.cell 1;have z20:=fun o=>Cn o y20;have z21:=fun o=>Cn o y21;replace HV2:=Hd HV2;clear hf2)
   |(refine Mi rfl (.tmp 19) (.tmp 20) rfl HBA.o rfl (some ⟨w.drew.heap.size,0,none⟩) 0 IBA2.o rfl (by omega) ?_;intro A2' c2' v2 HV2 hf2;have y20:v2.cell? ⟨p,0,none⟩=some (.slice A1 n c1):=HV2.blk.cell 0;have y21:v2.cell? ⟨p,1,none⟩=some (.slice A2 n c2):=HV2.blk.cell 1;have z20:=fun o=>Cn o y20;have z21:=fun o=>Cn o y21;replace HV2:=Hd HV2;have IN:=Hd (Pe IBA1.o hf2 HN2.o (Nat.le_succ _));clear hf2)
   |(refine Mi rfl (.tmp 19) (.tmp 20) rfl HAB.o rfl (some ⟨w.drew.heap.size+1,0,none⟩) 0 IAB2.o rfl (by omega) ?_;intro A2' c2' v2 HV2 hf2;have y20:v2.cell? ⟨p,0,none⟩=some (.slice A1 n c1):=HV2.blk.cell 0;have y21:v2.cell? ⟨p,1,none⟩=some (.slice A2 n c2):=HV2.blk.cell 1;have z20:=fun o=>Cn o y20;have z21:=fun o=>Cn o y21;replace HV2:=Hd HV2;have IN:=Hd (Pe IAB1.o hf2 HN2.o (Ath _));clear hf2)
   |(refine Mi rfl (.tmp 19) (.tmp 20) rfl HV1.o rfl (some ⟨w.drew.heap.size,0,none⟩) 0 IN.o rfl (by omega) ?_;intro A2' c2' v3 HV3 hf3;clear hf3;have y30:v3.cell? ⟨p,0,none⟩=some (.slice A1 n c1):=HV3.blk.cell 0;have y31:v3.cell? ⟨p,1,none⟩=some (.slice A2 n c2):=HV3.blk.cell 1;have f30:v3.frozen? ⟨p,0,none⟩=false:=HV3.blk.frozen 0;have f31:v3.frozen? ⟨p,1,none⟩=false:=HV3.blk.frozen 1;replace HV3:=Hd HV3)
   |(refine Mi rfl (.tmp 19) (.tmp 20) rfl HV1.o rfl (some ⟨w.drew.heap.size+1,0,none⟩) 0 IN.o rfl (by omega) ?_;intro A2' c2' v3 HV3 hf3;clear hf3;have y30:v3.cell? ⟨p,0,none⟩=some (.slice A1 n c1):=HV3.blk.cell 0;have y31:v3.cell? ⟨p,1,none⟩=some (.slice A2 n c2):=HV3.blk.cell 1;have f30:v3.frozen? ⟨p,0,none⟩=false:=HV3.blk.frozen 0;have f31:v3.frozen? ⟨p,1,none⟩=false:=HV3.blk.frozen 1;replace HV3:=Hd HV3)
   |(refine Mi rfl (.tmp 19) (.tmp 20) rfl (HV1.o.alloc (.cells #[.int .i64 0] 3)) rfl (some ⟨v1.heap.size,0,none⟩) 0 (Wg v1) rfl (by omega) ?_;intro A2' c2' v3 HV3 hf3;clear hf3;have y30:v3.cell? ⟨p,0,none⟩=some (.slice A1 n c1):=HV3.blk.cell 0;have y31:v3.cell? ⟨p,1,none⟩=some (.slice A2 n c2):=HV3.blk.cell 1;have f30:v3.frozen? ⟨p,0,none⟩=false:=HV3.blk.frozen 0;have f31:v3.frozen? ⟨p,1,none⟩=false:=HV3.blk.frozen 1;replace HV3:=Hd HV3)
   |(refine Mh rfl (.tmp 13) (.tmp 14) rfl HV2.o rfl (some ⟨w.drew.heap.size,0,none⟩) [] IN.o rfl (by omega) ?_;intro A1' c1' v3 HV3 hf3;clear hf3;have y30:v3.cell? ⟨p,0,none⟩=some (.slice A1 n c1):=HV3.blk.cell 0;have y31:v3.cell? ⟨p,1,none⟩=some (.slice A2 n c2):=HV3.blk.cell 1;have f30:v3.frozen? ⟨p,0,none⟩=false:=HV3.blk.frozen 0;have f31:v3.frozen? ⟨p,1,none⟩=false:=HV3.blk.frozen 1;replace HV3:=Hd HV3)
   |(refine Mh rfl (.tmp 13) (.tmp 14) rfl HV2.o rfl (some ⟨w.drew.heap.size+1,0,none⟩) [] IN.o rfl (by omega) ?_;intro A1' c1' v3 HV3 hf3;clear hf3;have y30:v3.cell? ⟨p,0,none⟩=some (.slice A1 n c1):=HV3.blk.cell 0;have y31:v3.cell? ⟨p,1,none⟩=some (.slice A2 n c2):=HV3.blk.cell 1;have f30:v3.frozen? ⟨p,0,none⟩=false:=HV3.blk.frozen 0;have f31:v3.frozen? ⟨p,1,none⟩=false:=HV3.blk.frozen 1;replace HV3:=Hd HV3)
   |(refine Mh rfl (.tmp 13) (.tmp 14) rfl (HV2.o.alloc (.cells #[.string ⟨([]:List UInt8).toArray⟩] 9)) rfl (some ⟨v2.heap.size,0,none⟩) [] (Sc v2 []) rfl (by omega) ?_;intro A1' c1' v3 HV3 hf3;clear hf3;have y30:v3.cell? ⟨p,0,none⟩=some (.slice A1 n c1):=HV3.blk.cell 0;have y31:v3.cell? ⟨p,1,none⟩=some (.slice A2 n c2):=HV3.blk.cell 1;have f30:v3.frozen? ⟨p,0,none⟩=false:=HV3.blk.frozen 0;have f31:v3.frozen? ⟨p,1,none⟩=false:=HV3.blk.frozen 1;replace HV3:=Hd HV3))
  all_goals
   go_wp2_with fail;go_meet;exact⟨_,rfl,A1',A2',c1',c2',by first|exact(HV3.o.set0 _).set1 _|exact(HV3.o.set1 _).set0 _⟩
 case rest=>
 obtain⟨w1,rfl,A1',A2',c1',c2',h1⟩:=hcut;have hc1:n+1≤c1':=h1.o1.cap.1;have hc2:n+1≤c2':=h1.o2.cap.1;have hl1:ks.length=n:=by have:=h1.o1.is.1;simp at this;omega
 have hl2:ns.length=n:=by have:=h1.o2.is.1;simp at this;omega
 obtain⟨g1,rfl⟩:=Akj Dp h1.o1 (by omega);obtain⟨g2,rfl⟩:=Akj Fl h1.o2 (by omega);have hgg:g1≠g2:=h1.d12 _ _ rfl rfl;have HGG:=Hd hgg;have HL:=Hd (And.intro hl1 hl2);have H1:=Hd h1;have hi1:IntKind.i64.wrap ((i:Int)+1)=(((i+1:Nat)):Int):=by rw [IntWalk.i64_in _ (by omega)];omega
 have hkd:n-i≤n+1-i:=by omega
 clear h1 hgg hl1 hl2;go_upto_region 2 with fail
 go_cut [] (fun wx=>∃wy,wy=wx∧Db w p A1 A2 (some ⟨g1,0,none⟩) (n+1) c1' ((ks++ [[]]).take (i+1)++((ks++ [[]]).drop i).take (n-i)++(ks++ [[]]).drop (i+1+(n-i))) (some ⟨g2,0,none⟩) (n+1) c2' (ns++ [0]) (.slice (some ⟨g1,0,none⟩) (n+1) c1') (.slice (some ⟨g2,0,none⟩) (n+1) c2') wx)
 case first=>
  obtain⟨hX,_⟩:=Ul (f:=Jc) (g:=g1) (c:=c1') (show i+1≤n+1 by omega) (by omega) Dp;obtain⟨_,isY⟩:=Ul (f:=Jc) (g:=g1) (c:=c1') (show i≤n+1 by omega) (by omega) Dp;obtain⟨wd,hwd⟩:∃wd,wd=w1.drew:=⟨_,rfl⟩;have HD:=Hd (show Db w p A1 A2 _ _ _ _ _ _ _ _ _ _ wd by rw [hwd];exact H1.o.below (Jh w1));have HY:=isY _ _ HD.o.o1.is;have eX:n+1-(i+1)=n-i:=by omega
  rw [eX] at hX;obtain⟨X,eqX⟩:∃X,(if c1'=i+1 then some (⟨g1,0,none⟩:Addr) else some ⟨g1,i+1,none⟩)=X:=⟨_,rfl⟩;obtain⟨Y,eqY⟩:∃Y,(if c1'=i then some (⟨g1,0,none⟩:Addr) else some ⟨g1,i,none⟩)=Y:=⟨_,rfl⟩;rw [eqX] at hX;rw [eqY] at HY;have HX:=Hd hX;replace HY:=Hd (HY.take Dp hkd);have q0:wd.cell? ⟨p,0,none⟩=some (.slice (some ⟨g1,0,none⟩) (n+1) c1'):=HD.o.blk.cell 0;have i0:(0:Int)≤(i:Int)+1:=by omega
  have i2:(i:Int)≤(n:Int)+1:=by omega
  subst hwd;clear hX isY eX;go_region_law (refine Vk rfl (.tmp 32) (.tmp 38) 23 rfl (by kernel_rfl) (by kernel_rfl) Dp Ot X Y (n-i) (n+1-i) (c1'-(i+1)) (c1'-i) rfl rfl hkd 0 (some ⟨g1,0,none⟩) (n+1) c1' (i+1) (ks++ [[]]) _ HD.o.o1 HX.o (by omega) HY.o ?_;intro w5 hO hF;have H5:=Hd (HD.o.app1 hO hF (.inl rfl));clear hO hF)
  all_goals
   go_wp2_with fail;go_meet;exact⟨_,rfl,H5.o⟩
 case rest=>
 obtain⟨w2,rfl,h1⟩:=hcut;have H2:=Hd h1;clear h1 H1;go_upto_region 3 with fail
 go_cut [] (fun wx=>∃wy,wy=wx∧Db w p A1 A2 (some ⟨g1,0,none⟩) (n+1) c1' ((ks++ [[]]).take (i+1)++((ks++ [[]]).drop i).take (n-i)++(ks++ [[]]).drop (i+1+(n-i))) (some ⟨g2,0,none⟩) (n+1) c2' ((ns++ [0]).take (i+1)++((ns++ [0]).drop i).take (n-i)++(ns++ [0]).drop (i+1+(n-i))) (.slice (some ⟨g1,0,none⟩) (n+1) c1') (.slice (some ⟨g2,0,none⟩) (n+1) c2') wx)
 case first=>
  have H1:=H2;obtain⟨hX,_⟩:=Ul (f:=Jw) (g:=g2) (c:=c2') (show i+1≤n+1 by omega) (by omega) Fl;obtain⟨_,isY⟩:=Ul (f:=Jw) (g:=g2) (c:=c2') (show i≤n+1 by omega) (by omega) Fl;obtain⟨wd,hwd⟩:∃wd,wd=w2.drew:=⟨_,rfl⟩;have HD:=Hd (show Db w p A1 A2 _ _ _ _ _ _ _ _ _ _ wd by rw [hwd];exact H1.o.below (Jh w2));have HY:=isY _ _ HD.o.o2.is;have eX:n+1-(i+1)=n-i:=by omega
  rw [eX] at hX;obtain⟨X,eqX⟩:∃X,(if c2'=i+1 then some (⟨g2,0,none⟩:Addr) else some ⟨g2,i+1,none⟩)=X:=⟨_,rfl⟩;obtain⟨Y,eqY⟩:∃Y,(if c2'=i then some (⟨g2,0,none⟩:Addr) else some ⟨g2,i,none⟩)=Y:=⟨_,rfl⟩;rw [eqX] at hX;rw [eqY] at HY;have HX:=Hd hX;replace HY:=Hd (HY.take Fl hkd);have q0:wd.cell? ⟨p,1,none⟩=some (.slice (some ⟨g2,0,none⟩) (n+1) c2'):=HD.o.blk.cell 1;have i0:(0:Int)≤(i:Int)+1:=by omega
  have i2:(i:Int)≤(n:Int)+1:=by omega
  subst hwd;clear hX isY eX;go_region_law (refine Vk rfl (.tmp 46) (.tmp 52) 151 rfl (by kernel_rfl) (by kernel_rfl) Fl Aef X Y (n-i) (n+1-i) (c2'-(i+1)) (c2'-i) rfl rfl hkd 0 (some ⟨g2,0,none⟩) (n+1) c2' (i+1) (ns++ [0]) _ HD.o.o2 HX.o (by omega) HY.o ?_;intro w5 hO hF;have H5:=Hd (HD.o.app2 hO hF (.inl rfl));clear hO hF)
  all_goals
   go_wp2_with fail;go_meet;exact⟨_,rfl,H5.o⟩
 case rest=>
 obtain⟨w3,rfl,h1⟩:=hcut;obtain⟨hl1,hl2⟩:=HL.o;have H3:=Hd h1;have hin:i<n+1:=by omega
 obtain⟨wd,hwd⟩:∃wd,wd=w3.drew:=⟨_,rfl⟩;have HD:=Hd (show Db w p A1 A2 _ _ _ _ _ _ _ _ _ _ wd by rw [hwd];exact h1.below (Jh w3));have HS1:=Hd (HD.o.store1 hin s);have HS2:=Hd (HD.o.store2 hin at_);have HS12:=Hd (HS1.o.store2 hin at_);have HS21:=Hd (HS2.o.store1 hin s);have q0:wd.cell? ⟨p,0,none⟩=some (.slice (some ⟨g1,0,none⟩) (n+1) c1'):=HD.o.blk.cell 0;have q1:wd.cell? ⟨p,1,none⟩=some (.slice (some ⟨g2,0,none⟩) (n+1) c2'):=HD.o.blk.cell 1;obtain⟨⟨r0,r1⟩,r2,_⟩:=Gx Dp HD.o.o1 hin s _ rfl;obtain⟨⟨r3,r4⟩,r5,_⟩:=Gx Fl HD.o.o2 hin at_ _ rfl;obtain⟨⟨t3,t4⟩,t5,_⟩:=Gx Fl HS1.o.o2 hin at_ _ rfl;obtain⟨⟨t0,t1⟩,t2,_⟩:=Gx Dp HS2.o.o1 hin s _ rfl;have j0:(0:Int)≤(i:Int):=by omega
 have j1:(i:Int)<(n:Int)+1:=by omega
 subst hwd;clear h1 hl1 hl2;have t6:(w3.setCell ⟨g1,i,none⟩ (.string ⟨s.toArray⟩)).cell? ⟨g2,i,none⟩=some t3:=t4;have t7:(w3.setCell ⟨g1,i,none⟩ (.string ⟨s.toArray⟩)).frozen? ⟨g2,i,none⟩=false:=t5;have t8:(w3.setCell ⟨g2,i,none⟩ (.int .i64 (at_:Int))).cell? ⟨g1,i,none⟩=some t0:=t1;have t9:(w3.setCell ⟨g2,i,none⟩ (.int .i64 (at_:Int))).frozen? ⟨g1,i,none⟩=false:=t2;go_wp2_with fail;go_region_law (fail)
 all_goals
  go_wp2_with fail;go_end0;refine⟨rfl,some ⟨g1,0,none⟩,some ⟨g2,0,none⟩,c1',c2',?_⟩;obtain⟨hl1,hl2⟩:=HL.o;have z1:=Aa8 ks [] s i (by omega);have z2:=Aa8 ns 0 at_ i (by omega);rw [hl1] at z1;rw [hl2] at z2;rw [←z1,←z2];exact HS12.o
theorem Aa6:∀x:List UInt8,Op.bytesLess x x=false
 | []=>rfl
 |a::x=>by
  show(decide (a<a)||(a==a&&Op.bytesLess x x))=false;rw [Aa6 x];simp
theorem Ajs:∀x y:List UInt8,Op.bytesLess x y=false→x≠y→Op.bytesLess y x=true
 | [],[],_,h=>absurd rfl h
 | [],_::_,h,_=>by cases h
 |_::_,[],_,_=>rfl
 |a::x,b::y,h,hne=>by
  have g:(decide (a<b)||(a==b&&Op.bytesLess x y))=false:=h;show(decide (b<a)||(b==a&&Op.bytesLess y x))=true;rw [Bool.or_eq_false_iff,Bool.and_eq_false_iff,decide_eq_false_iff_not] at g;rw [Bool.or_eq_true,Bool.and_eq_true,decide_eq_true_eq,beq_iff_eq];by_cases e:a=b
  ·subst e;refine .inr ⟨rfl,Ajs x y ?_ (fun e=>hne (by rw [e]))⟩;rcases g.2 with g|g
   ·simp at g
   ·exact g
  ·left;have:=g.1;rcases UInt8.lt_or_lt_of_ne e with h|h
   ·exact absurd h this
   ·exact h
abbrev Jo(ks:List (List UInt8)):Prop:=ks.Pairwise (fun x y=>Op.bytesLess x y=true)
theorem Ya{ks:List (List UInt8)}{s:List UInt8}{i:Nat}(h:Mk ks s i)(hs:Jo ks)(hn:ks[i]?≠some s):s∉ks:=by
 intro hm;obtain⟨j,hj,e⟩:=List.getElem_of_mem hm;have ej:ks[j]?=some s:=by rw [Ati hj,e]
 rcases Nat.lt_or_ge j i with c|c
 ·have:=h.lo j s c ej;rw [Aa6] at this;cases this
 ·by_cases e2:j=i
  ·exact hn (e2▸ej)
  ·have hi:i<ks.length:=by omega
   have h1:=h.hi i _ (Ath _) (Ati hi);have h2:=List.pairwise_iff_getElem.1 hs i j hi hj (by omega);rw [e] at h2;rw [h1] at h2;cases h2
theorem Abu{ks:List (List UInt8)}{s:List UInt8}{i:Nat}(h:Mk ks s i)(hs:Jo ks)(hn:s∉ks):Jo (ks.take i++ [s]++ks.drop i):=by
 have ha:∀x∈ks.take i,Op.bytesLess x s=true:=by
  intro x hx;obtain⟨j,hj,e⟩:=List.getElem_of_mem hx;have hj':j<i:=by simp at hj;omega
  refine h.lo j x hj' ?_;rw [←e,List.getElem_take,Ati (by simp at hj;omega)]
 have hb:∀x∈ks.drop i,Op.bytesLess s x=true:=by
  intro x hx;obtain⟨j,hj,e⟩:=List.getElem_of_mem hx;have hj':i+j<ks.length:=by simp at hj;omega
  have e2:ks[i+j]?=some x:=by rw [←e,List.getElem_drop,Ati hj']
  exact Ajs x s (h.hi (i+j) x (by omega) e2) (fun e3=>hn (e3▸List.mem_of_mem_drop hx))
 have hab:=hs;rw [show ks=ks.take i++ks.drop i from(List.take_append_drop i ks).symm,Jo,List.pairwise_append] at hab;obtain⟨p1,p2,p3⟩:=hab;rw [Jo,Ato,List.pairwise_append];refine⟨p1,?_,?_⟩
 ·rw [List.singleton_append,List.pairwise_cons];exact⟨hb,p2⟩
 ·intro x hx y hy;rw [List.singleton_append,List.mem_cons] at hy;rcases hy with rfl|hy
  ·exact ha x hx
  ·exact p3 x hx y hy
theorem Hh(x:List UInt8×Nat)(l:List (List UInt8×Nat))(k:List UInt8):Bf (x::l) k=if x.1=k then some x.2 else Bf l k:=by
 unfold Bf;rw [List.find?_cons];by_cases e:x.1=k
 ·rw [if_pos e];simp [e]
 ·rw [if_neg e];have:(x.1==k)=false:=beq_eq_false_iff_ne.mpr e;rw [this]
theorem P9:∀(ks:List (List UInt8)) (ns:List Nat) (i:Nat) (s:List UInt8) (a:Nat),Jo ks→ks[i]?=some s→ns[i]?=some a→Bf (ks.zip ns) s=some a
 | [],_,_,_,_,_,h,_=>by simp at h
 |_::_,[],_,_,_,_,_,h=>by simp at h
 |k::ks,n::ns,0,s,a,_,h1,h2=>by
  rw [List.zip_cons_cons,Hh];simp at h1 h2;rw [if_pos h1,h2]
 |k::ks,n::ns,i+1,s,a,hs,h1,h2=>by
  rw [List.zip_cons_cons,Hh];simp at h1 h2;rw [Jo,List.pairwise_cons] at hs;rw [if_neg ?_]
  ·exact P9 ks ns i s a hs.2 h1 h2
  ·intro e;have hm:s∈ks:=List.mem_of_getElem? h1;have:=hs.1 s hm;rw [show k=s from e,Aa6] at this;cases this
theorem Jd:∀(ks:List (List UInt8)) (ns:List Nat) (s:List UInt8),s∉ks→Bf (ks.zip ns) s=none
 | [],_,_,_=>rfl
 |_::_,[],_,_=>rfl
 |k::ks,n::ns,s,h=>by
  rw [List.zip_cons_cons,Hh,if_neg (fun e=>h (by rw [←e];exact List.mem_cons_self))];exact Jd ks ns s (fun e=>h (List.mem_cons_of_mem _ e))
theorem Mt:∀(l m:List (List UInt8×Nat)) (k:List UInt8),Bf (l++m) k=match Bf l k with|some a=>some a|none=>Bf m k
 | [],m,k=>by simp [Bf]
 |x::l,m,k=>by
  rw [List.cons_append,Hh,Hh];by_cases e:x.1=k
  ·rw [if_pos e,if_pos e]
  ·rw [if_neg e,if_neg e];exact Mt l m k
theorem Amn{ks:List (List UInt8)}{ns:List Nat}(hl:ks.length=ns.length){s:List UInt8}(a i:Nat)(hn:s∉ks)(k:List UInt8):
  Bf ((ks.take i++ [s]++ks.drop i).zip (ns.take i++ [a]++ns.drop i)) k=if s=k then some a else Bf (ks.zip ns) k:=by
 rw [List.zip_append (by simp [hl]),List.zip_append (by simp [hl]),Ato,Mt];have hz:ks.zip ns=(ks.take i).zip (ns.take i)++(ks.drop i).zip (ns.drop i):=by
  rw [←List.zip_append (by simp [hl]),List.take_append_drop,List.take_append_drop]
 by_cases e:s=k
 ·subst e;rw [if_pos rfl,Jd _ _ _ (fun h=>hn (List.mem_of_mem_take h))];simp [Bf]
 ·have h2:Bf (([s]:List (List UInt8)).zip [a]) k=none:=by
   show Bf [(s,a)] k=_;rw [Hh,if_neg e];rfl
  rw [if_neg e,hz,Mt,h2,Mt]
theorem Ajc(m:List (List UInt8×Nat))(s k:List UInt8)(a:Nat)(h:Bf m s=none):Bf (En m s a) k=if s=k then some a else Bf m k:=by
 have e1:En m s a=m++ [(s,a)]:=by unfold En;rw [if_neg (by rw [h];decide)]
 rw [e1,Mt];by_cases e:s=k
 ·subst e;rw [h,if_pos rfl];show Bf [(s,a)] s=_;rw [Hh,if_pos rfl]
 ·rw [if_neg e];have:Bf [(s,a)] k=none:=by rw [Hh,if_neg e];rfl
  rw [this];cases Bf m k <;>rfl
theorem R8{α:Type}{f:α→List Value}{sz:Nat}{e:TypeId}{w:World}{B n c:Nat}{ad:Addr}{l:List α}(h:Go.Acc.Own f sz e w B (some ad) n c l):∃cur,Af w ad.block e cur:=by
 rcases h.2.2 with⟨hv,_⟩|⟨g',cap,cur,hv,hb,hg,_⟩
 ·cases hv
 ·injection hv with e1
  injection e1 with e1
  subst e1;exact⟨cur,hg⟩
structure L0(m:List (List UInt8×Nat))(n:Nat)(ks:List (List UInt8))(ns:List Nat):Prop where
 sorted:Jo ks
 get:∀s,Bf m s=Bf (ks.zip ns) s
 le:n≤m.length
 at_:∀a∈ns,a≤1048576
 kl:ks.length=n
 nl:ns.length=n
theorem Gh.open_{w:World}{o:Nat→Nat}{i p:Nat}{m:List (List UInt8×Nat)}(h:Gh w o i p m):∃A1 A2 n c1 c2 ks ns,Db w p A1 A2 A1 n c1 ks A2 n c2 ns (.slice A1 n c1) (.slice A2 n c2) w∧Of o A1 i∧Of o A2 i∧o p=i∧L0 m n ks ns:=by
 obtain⟨A1,A2,n,c1,c2,ks,ns,hb,h1,h2,o1,o2,op,hs,hg,hn,ha⟩:=h;refine⟨A1,A2,n,c1,c2,ks,ns,⟨hb,h1,h2,?_,?_,?_,Fr.refl _ _,.inl rfl,.inl rfl⟩,o1,o2,op,⟨hs,hg,hn,ha,h1.is.1,h2.is.1⟩⟩
 ·rintro a rfl e;obtain⟨cur,hc⟩:=R8 h1;rw [e] at hc;exact Af.ne_ hc hb (by decide) rfl
 ·rintro a rfl e;obtain⟨cur,hc⟩:=R8 h2;rw [e] at hc;exact Af.ne_ hc hb (by decide) rfl
 ·rintro a b rfl rfl e;obtain⟨cur,hc⟩:=R8 h1;obtain⟨cur',hc'⟩:=R8 h2;rw [e] at hc;exact Af.ne_ hc hc' (by decide) rfl
theorem Gh.shut{w w':World}{o:Nat→Nat}{i p n c1 c2:Nat}{A10 A20 A1 A2:Option Addr}{m:List (List UInt8×Nat)}{ks:List (List UInt8)}{ns:List Nat}(h:Db w p A10 A20 A1 n c1 ks A2 n c2 ns (.slice A1 n c1) (.slice A2 n c2) w')
  (hp:L0 m n ks ns) (h1:Of o A10 i) (h2:Of o A20 i) (op:o p=i) (hlt:p<w.heap.size) (b1:∀a,A10=some a→a.block<w.heap.size) (b2:∀a,A20=some a→a.block<w.heap.size):Gh w' (Ak o w.heap.size i) i p m∧To (fun x=>x=i) w o w' (Ak o w.heap.size i):=by
 have hof:∀{A A0:Option Addr},Of o A0 i→(∀a,A0=some a→a.block<w.heap.size)→(A.map (·.block)=A0.map (·.block)∨∃k,A.map (·.block)=some k∧w.heap.size≤k)→Of (Ak o w.heap.size i) A i:=by
  intro A A0 ha hb hw ad hA;subst hA;rcases hw with e|⟨k,e,hk⟩
  ·cases A0 with
   |none=>cases e
   |some a0=>
    injection e with e
    have e:ad.block=a0.block:=e;rw [e,Au (hb a0 rfl)];exact ha a0 rfl
  ·injection e with e
   have e:ad.block=k:=e;rw [e,Am hk]
 refine⟨⟨A1,A2,n,c1,c2,ks,ns,h.blk,h.o1,h.o2,hof h1 b1 h.w1,hof h2 b2 h.w2,by rw [Au hlt];exact op,hp.sorted,hp.get,hp.le,hp.at_⟩,To.of_fr h.fr ?_ i⟩;rintro k _ (rfl|⟨a,e,rfl⟩|⟨a,e,rfl⟩)
 ·exact op
 ·exact h1 a e
 ·exact h2 a e
theorem L0.ins{m:List (List UInt8×Nat)}{n:Nat}{ks:List (List UInt8)}{ns:List Nat}(h:L0 m n ks ns){s:List UInt8}{i a:Nat}(hp:Mk ks s i)(hn:ks[i]?≠some s)(ha:a≤1048576):
  L0 (En m s a) (n+1) (ks.take i++ [s]++ks.drop i) (ns.take i++ [a]++ns.drop i):=by
 have hnm:=Ya hp h.sorted hn;have hg:Bf m s=none:=by rw [h.get,Jd _ _ _ hnm]
 have hi:=hp.le;have k1:=h.kl;have k2:=h.nl;refine⟨Abu hp h.sorted hnm,fun k=>?_,?_,?_,by simp;omega,by simp;omega⟩
 ·rw [Ajc m s k a hg,Amn (by omega) a i hnm,h.get]
 ·have:=h.le;unfold En;rw [if_neg (by rw [hg];decide)];simp;omega
 ·intro x hx;simp only [List.mem_append,List.mem_singleton] at hx;rcases hx with(hx|rfl)|hx
  ·exact h.at_ x (List.mem_of_mem_take hx)
  ·exact ha
  ·exact h.at_ x (List.mem_of_mem_drop hx)
theorem L0.get_none{m:List (List UInt8×Nat)}{n:Nat}{ks:List (List UInt8)}{ns:List Nat}(h:L0 m n ks ns){s:List UInt8}{i:Nat}(hp:Mk ks s i)(hn:ks[i]?≠some s):Bf m s=none:=by
 rw [h.get,Jd _ _ _ (Ya hp h.sorted hn)]
theorem L0.get_some{m:List (List UInt8×Nat)}{n:Nat}{ks:List (List UInt8)}{ns:List Nat}(h:L0 m n ks ns){s:List UInt8}{i:Nat}(hs:ks[i]?=some s):∃a,ns[i]?=some a∧Bf m s=some a∧i<n:=by
 have hi:i<ks.length:=(List.getElem?_eq_some_iff.1 hs).1;have k1:=h.kl;have k2:=h.nl;refine⟨ns[i]'(by omega),Ati (by omega),?_,by omega⟩;rw [h.get];exact P9 ks ns i s _ h.sorted hs (Ati (by omega))
theorem Vf(p:Nat)(w:World)(h:w.cell? ⟨p,2,none⟩=some (.bool true)):Calls Tryz.prog 381 #[.pointer (some ⟨p,0,none⟩)] w fun e w'=>e= .returned (.bool false)∧w=w':=by
 go_enter Tryz.func381,Tryz.ntmps381;go_wp2;go_ret;exact⟨rfl,rfl⟩
def Tj(x:Option Nat):Value:= .tuple #[.int .i64 ((x.getD 0:Nat):Int),.bool x.isSome]
theorem Ri(i p:Nat)(m:List (List UInt8×Nat))(s:List UInt8)(w:World)(o:Nat→Nat)(h:Gh w o i p m)(hm:m.length≤1048576):
  Calls Tryz.prog 322 #[.pointer (some ⟨p,0,none⟩),.string ⟨s.toArray⟩] w fun e w'=>e= .returned (Tj (Bf m s))∧Below w.heap.size w w':=by
 obtain⟨A1,A2,n,c1,c2,ks,ns,hL,o1,o2,op,hP⟩:=h.open_;have HL:=Hd hL;have HP:=Hd hP;have hn:n≤1048576:=Nat.le_trans hP.le hm;have x0:w.cell? ⟨p,0,none⟩=some (.slice A1 n c1):=hL.blk.cell 0;have x1:w.cell? ⟨p,1,none⟩=some (.slice A2 n c2):=hL.blk.cell 1;have x2:w.cell? ⟨p,2,none⟩=some (.bool true):=hL.blk.cell 2;clear h hL o1 o2 op hP;go_enter Tryz.func322,Tryz.ntmps322;go_wp2_with fail;go_at_call 381;refine(Vf p w x2).mono ?_;rintro e w' ⟨rfl,rfl⟩;go_wp2_with fail;go_at_call 382;refine(Sq p n c1 A1 ks s w x0 HL.o.o1.is hn HP.o.sorted).mono ?_;rintro e w1 ⟨j,hj,rfl,hb⟩;have x1':=Ag hb x1;have HI:=Hd (HL.o.o2.is.pure hb);have HB:=Hd hb;have HJ:=Hd hj;by_cases hk:ks[j]?=some s
 ·obtain⟨a,ha,hg,hjn⟩:=HP.o.get_some hk;have hd:decide (ks[j]?=some s)=true:=decide_eq_true hk;rw [hd];obtain⟨g,off,rfl,hk',hc⟩:=HI.o.at_ Fl (by omega) hjn;have hcx:w1.cell? ⟨g,off+j,none⟩=some (.int .i64 (a:Int)):=by
   have h3:=hc 0 (by omega);have e:ns[j]=a:=by rw [Ati hk'] at ha;injection ha
   rw [e,Nat.mul_one,Nat.add_zero] at h3;exact h3
  have HG:=Hd hg;have hj0:(0:Int)≤(j:Int):=by omega
  have hj1:(j:Int)<(n:Int):=by omega
  clear hk hd ha hg hk' hc hb x0 x1 x2 hj;go_wp2_with fail;go_ret2;refine⟨by rw [HG.o];rfl,HB.o⟩
 ·have hd:decide (ks[j]?=some s)=false:=decide_eq_false hk;have HG:=Hd (HP.o.get_none hj hk);rw [hd];clear hk hd hb x0 x1 x2 hj;go_wp2_with fail;go_ret2;exact⟨by rw [HG.o];rfl,HB.o⟩
theorem Lp(i p:Nat)(m:List (List UInt8×Nat))(s:List UInt8)(a:Nat)(w:World)(o:Nat→Nat)(h:Gh w o i p m)(hm:m.length≤1048575)(ha:a≤1048576):
  Calls Tryz.prog 324 #[.pointer (some ⟨p,0,none⟩),.string ⟨s.toArray⟩,.int .i64 (a:Int)] w fun e w'=>(∃x,e= .returned (.int .i64 x))∧∃o',Gh w' o' i p (En m s a)∧To (fun k=>k=i) w o w' o':=by
 have H:=Hd h;obtain⟨A1,A2,n,c1,c2,ks,ns,hL,o1,o2,op,hP⟩:=h.open_;have HL:=Hd hL;have HP:=Hd hP;have HO1:=Hd o1;have HO2:=Hd o2;have HOP:=Hd op;have hn:n≤1048575:=Nat.le_trans hP.le hm;have x0:w.cell? ⟨p,0,none⟩=some (.slice A1 n c1):=hL.blk.cell 0;have x2:w.cell? ⟨p,2,none⟩=some (.bool true):=hL.blk.cell 2;have ha0:¬(a:Int)<0:=by omega
 have ha1:¬(9007199254740991:Int)<(a:Int):=by omega
 clear h hL o1 o2 op hP;go_enter Tryz.func324,Tryz.ntmps324;go_wp2_with fail;go_at_call 381;refine(Vf p w x2).mono ?_;rintro e w' ⟨rfl,rfl⟩;go_wp2_with fail;go_at_call 382;refine(Sq p n c1 A1 ks s w x0 HL.o.o1.is (by omega) HP.o.sorted).mono ?_;rintro e w1 ⟨j,hj,rfl,hb⟩;have HB:=Hd hb;have HJ:=Hd hj;have hjn:j≤n:=by have:=hj.le;have:=HP.o.kl;omega
 by_cases hk:ks[j]?=some s
 ·obtain⟨a',_,hg,_⟩:=HP.o.get_some hk;have hd:decide (ks[j]?=some s)=true:=decide_eq_true hk;rw [hd];have HG:=Hd (show En m s a=m by unfold En;rw [hg];rfl);clear hk hd hg hb x0 x2 hj;go_wp2_with fail;go_ret;rw [HG.o];exact⟨⟨_,rfl⟩,o,H.o.to_ (To.pure (fun _=>False) HB.o o) (fun h=>h),To.pure _ HB.o o⟩
 ·have hd:decide (ks[j]?=some s)=false:=decide_eq_false hk;have HK:=Hd hk;have HL1:=Hd (HL.o.below HB.o);have HL2:=Hd (Db.mk HL1.o.blk HL1.o.o1 HL1.o.o2 HL1.o.d1 HL1.o.d2 HL1.o.d12 (Fr.refl _ w1) (.inl rfl) (.inl rfl));rw [hd];clear hk hd hb x0 x2 hj;go_wp2_with fail;go_at_call 383;refine(Amv p j n c1 c2 A1 A2 ks ns s a w1 HL2.o hjn hn).mono ?_;rintro e w2 ⟨rfl,A1',A2',c1',c2',h2⟩;have H2:=Hd h2;clear h2;go_wp2_with fail;go_ret;obtain⟨r1,r2⟩:=Gh.shut (i:=i) (o:=o) H2.o (HP.o.ins HJ.o HK.o ha) HO1.o HO2.o HOP.o HL1.o.blk.lt (fun x e=>(HL1.o.o1.addr x e).2.2) (fun x e=>(HL1.o.o2.addr x e).2.2);exact⟨⟨_,rfl⟩,_,r1,(To.pure _ HB.o o).trans r2⟩
theorem Tz(W:World)(s z:List UInt8):Ey (W.alloc (.cells #[.string ⟨s.toArray⟩,.string ⟨z.toArray⟩] 9)) (some ⟨W.heap.size,0,none⟩) 2 [s,z]:=by
 refine⟨rfl,fun j u hu=>⟨_,_,rfl,?_⟩⟩;rw [Nat.zero_add,(Af.new W _ _).cell j];simpa [Jc] using hu
theorem Aqz(n:Nat)(hn:n<18446744073709551616):D4 (bWidth n) n=true:=decide_eq_true (.inr (E4 (E3 n) hn (Ath _)))
def Ox(t:Nat)(s z:List UInt8)(b:Bd):Bd:=
 let c:=Ah (bWidth s.length) b.b++Ai (bWidth s.length) s.length
 ({ b with b:=c++s++z,texts:=if t=5 then En b.texts s c.length else b.texts}:Bd).push ⟨t,bWidth s.length,c.length⟩
theorem C1{M:Bp}{fl:Int}{w:World}{o:Nat→Nat}{vals:List Bv}(h:Gf M fl w o vals):w.cell? ⟨M.β,0,none⟩=some (.pointer (some ⟨M.bb,0,none⟩))∧w.cell? ⟨M.β,3,none⟩=some (.int .i64 fl)∧w.cell? ⟨M.β,4,none⟩=some (.pointer (some ⟨M.kb,0,none⟩))∧w.cell? ⟨M.β,5,none⟩=some (.pointer (some ⟨M.tb,0,none⟩))∧w.cell? ⟨M.β,6,none⟩=some (.pointer (some ⟨M.lb,0,none⟩))∧w.cell? ⟨M.β,7,none⟩=some (.map (some M.mb)):=by
 obtain⟨A,n,c,hb,_⟩:=h;exact⟨hb.cell 0,hb.cell 3,hb.cell 4,hb.cell 5,hb.cell 6,hb.cell 7⟩
theorem Asi{i:Nat}(h:i=5):B7 i:=by subst h;exact⟨by omega,by omega⟩
theorem P5(M:Bp)(fl:Int)(b:Bd)(t:Nat)(s z:List UInt8)(w:World)(o:Nat→Nat)(h:BM M fl w o b)(hs:b.s.length<65536)(hm:b.b.length+s.length+z.length+20≤1048576)(htx:b.texts.length≤1048575):
  Calls Tryz.prog 335 #[.pointer (some ⟨M.β,0,none⟩),.int .i64 (t:Int),.string ⟨s.toArray⟩,.string ⟨z.toArray⟩] w (Cq M fl (Ox t s z b) w o):=by
 have HM:=Hd h;have HS:=Hd hs;have HTX:=Hd htx;obtain⟨n,hn⟩:∃n,s.length=n:=⟨_,rfl⟩;obtain⟨y,hy⟩:∃y,bWidth n=y:=⟨_,rfl⟩;have hn64:n<18446744073709551616:=by omega
 have HW:=Hd (show Vr n=(y:Int) by rw [Vs,hy]);have hyw:Av (y:Int)=true:=by rw [←hy];exact E3 n
 have HY:=Hd hyw;have hy8:y≤8:=by rcases C8 hyw with rfl|rfl|rfl|rfl <;>omega
 have HF:=Hd (show D4 y n=true by rw [←hy];exact Aqz n hn64);have HL7:=Hd (show b.b.length+7≤1048576 by omega);have hal:=C5 b.b hy8;have HLN:=Hd (show(Ah y b.b).length+y≤1048576 by omega);have hlt:(Ah y b.b++Ai y n).length+ [s,z].flatten.length≤1048576:=by
  rw [List.length_append,Aj];simp;omega
 have HLT:=Hd hlt;obtain⟨m,hmm⟩:∃m,(Ah y b.b++Ai y n).length=m:=⟨_,rfl⟩;have hm20:m≤1048576:=by omega
 have HMM:=Hd hmm;have HN64:=Hd (show(n:Int)<18446744073709551616 by omega);have HBL:=Hd (show Ox t s z b=({ b with b:=Ah y b.b++Ai y n++ [s,z].flatten,texts:=if t=5 then En b.texts s m else b.texts}:Bd).push ⟨t,y,m⟩ by
  unfold Ox Bd.push;simp only [hn,hy,hmm];simp)
 have hwn:IntKind.u64.wrap (n:Int)=(n:Int):=B8 _ (by omega);have hwm:IntKind.u64.wrap (m:Int)=(m:Int):=B8 _ (by omega);have hsz:(⟨s.toArray⟩:ByteArray).size=n:=hn;have HN64':=Hd hn64;obtain⟨b0,b3,b4,b5,b6,b7⟩:=C1 h.head;clear h hs hm hy hyw hal hmm hn64 b3 b4 b6 b7 hlt htx;go_enter Tryz.func335,Tryz.ntmps335;go_wp2_with fail;go_at_call 54;refine(Lr n (y:Int) w HN64'.o HW.o).mono ?_;rintro e w' ⟨rfl,rfl⟩;go_wp2_with fail;go_at_call 160;refine(G0 M.bb y b.b w o HM.o.buf HY.o HL7.o).mono ?_;rintro e w1 ⟨rfl,o1,hB1,hT1⟩;have HM1:=Hd (HM.o.buf_ hT1 hB1);have HT1:=Hd hT1;clear hB1 hT1 b0 b5;obtain⟨b0,_,_,b5,_⟩:=C1 HM1.o.head;go_wp2_with fail;go_at_call 163;refine(Ef M.bb y n (Ah y b.b) w1 o1 HM1.o.buf HY.o HF.o HN64.o HLN.o).mono ?_;rintro e w2 ⟨rfl,o2,hB2,hT2⟩;have HM2:=Hd (HM1.o.buf_ hT2 hB2);have HT2:=Hd (HT1.o.trans hT2);clear hB2 hT2 b0 b5 HT1 HM1;obtain⟨b0,_,_,b5,_⟩:=C1 HM2.o.head;go_wp2_with fail;go_at_call 159;refine(Dg m HM2.o.buf HMM.o).mono ?_;rintro e w' ⟨rfl,rfl⟩;go_wp2_with fail;go_at_call 164;refine(Gm M.bb 2 2 _ [s,z] (Ah y b.b++Ai y n) _ (Ak o2 w2.heap.size 0) (HM2.o.fresh ((Below.refl _ _).alloc (Ath _) _) 0).buf (Tz w2 s z) ?_ HLT.o (by omega)).mono ?_
 ·rintro ad e;injection e with e
  subst e;show Ak o2 w2.heap.size 0 w2.heap.size≠1;rw [Am (Ath _)];omega
 rintro e w3 ⟨rfl,o3,hB3,hT3⟩;have HM3:=Hd ((HM2.o.fresh ((Below.refl _ _).alloc (Ath _) (.cells #[.string ⟨s.toArray⟩,.string ⟨z.toArray⟩] 9)) 0).buf_ hT3 hB3);have HT3:=Hd (HT2.o.trans ((To.fresh (fun i=>i=1) ((Below.refl w2.heap.size w2).alloc (Ath _) (.cells #[.string ⟨s.toArray⟩,.string ⟨z.toArray⟩] 9)) o2 0).trans hT3));clear hB3 hT3 b0 b5 HT2 HM2;obtain⟨b0,b3,b4,b5,b6,b7⟩:=C1 HM3.o.head;clear b3 b4 b6 b7;by_cases ht:t=5
 ·have HE:=Hd ht;have e1:((t:Int)==5)=true:=by rw [ht];rfl
  clear ht;go_wp2_with fail;go_at_call 324;refine(Lp 5 M.tb b.texts s m w3 o3 HM3.o.texts HTX.o hm20).mono ?_;rintro e w4 ⟨⟨x,rfl⟩,o4,hB4,hT4⟩;have HM4:=Hd (HM3.o.texts_ hT4 hB4);have HT4:=Hd ((HT3.o.mono (fun _ h=>Ia h)).trans (hT4.mono (fun _ h=>Asi h)));clear hB4 hT4 b0 b5 HT3 HM3;obtain⟨b0,_⟩:=C1 HM4.o.head;go_wp2_with fail;go_at_call 235;refine(M6 M fl _ t y m w4 o4 HM4.o HS.o).mono ?_;rintro e w5 ⟨rfl,o5,hM5,hT5⟩;have HM5:=Hd hM5;have HT5:=Hd (HT4.o.trans hT5);clear hM5 hT5;go_wp2;go_end0;rw [HBL.o,if_pos HE.o];exact⟨rfl,o5,HM5.o,HT5.o⟩
 ·have HE:=Hd ht;have e1:((t:Int)==5)=false:=beq_eq_false_iff_ne.mpr (by omega);clear ht;go_wp2_with fail;go_at_call 235;refine(M6 M fl _ t y m w3 o3 HM3.o HS.o).mono ?_;rintro e w5 ⟨rfl,o5,hM5,hT5⟩;have HM5:=Hd hM5;have HT5:=Hd ((HT3.o.mono (fun _ h=>Ia h)).trans hT5);clear hM5 hT5;go_wp2;go_end0;rw [HBL.o,if_neg HE.o];exact⟨rfl,o5,HM5.o,HT5.o⟩
theorem Zo(fl:Int)(k:Nat)(hk:k≤4):Go.bits .and .i64 fl (k:Int)=((bits fl&&&k:Nat):Int):=by
 have hx:bits fl&&&k≤k:=Nat.and_le_right;have h1:(BitVec.ofInt 64 fl).toNat=bits fl:=by
  rw [BitVec.toNat_ofInt];rfl
 have h2:(BitVec.ofInt 64 (k:Int)).toNat=k:=by
  rw [BitVec.ofInt_natCast,BitVec.toNat_ofNat];exact Nat.mod_eq_of_lt (by omega)
 show IntKind.i64.wrap ((BitVec.ofInt 64 fl&&&BitVec.ofInt 64 (k:Int)).toNat:Int)=_;rw [BitVec.toNat_and,h1,h2];exact IntWalk.i64_in _ (by omega)
theorem Ao5(x i:Nat):x&&&2^i=if x/2^i % 2=1 then 2^i else 0:=by
 refine Nat.eq_of_testBit_eq fun j=>?_
 rw [Nat.testBit_and,Nat.testBit_two_pow];by_cases e:i=j
 ·subst e;rw [Nat.testBit_eq_decide_div_mod_eq];by_cases h:x/2^i % 2=1
  ·rw [if_pos h];simp [h]
  ·rw [if_neg h];simp [h]
 ·split
  ·rw [Nat.testBit_two_pow];simp [e]
  ·simp [e]
theorem Abq(fl:Int)(k i:Nat)(hk:k≤4)(hi:k=2^i):(!(Go.bits .and .i64 fl (k:Int)==0))=Ek (bits fl) k:=by
 rw [Zo fl k hk,hi,Ao5];unfold Ek;by_cases h:bits fl/2^i % 2=1
 ·rw [if_pos h,decide_eq_true h];have h2:0<2^i:=Nat.two_pow_pos i;obtain⟨z,hz⟩:∃z,2^i=z:=⟨_,rfl⟩;rw [hz] at h2⊢;have h3:((z:Nat):Int)≠0:=by omega
  simpa using h3
 ·rw [if_neg h,decide_eq_false h];rfl
theorem Wj(β k i:Nat)(fl:Int)(r:Bool)(w:World)(h:w.cell? ⟨β,3,none⟩=some (.int .i64 fl))(hk:k≤4)(hi:k=2^i)(hr:Ek (bits fl) k=r):
  Calls Tryz.prog 323 #[.pointer (some ⟨β,3,none⟩),.int .i64 (k:Int)] w fun e w'=>e= .returned (.bool r)∧w=w':=by
 have e1:=Abq fl k i hk hi;rw [hr] at e1;obtain⟨q,hq⟩:∃q,Go.bits .and .i64 fl (k:Int)=q:=⟨_,rfl⟩;rw [hq] at e1;clear hk hi hr;go_enter Tryz.func323,Tryz.ntmps323;go_wp2;go_ret;exact⟨by rw [←e1];rfl,rfl⟩
structure T6(M:Bp)(s:List UInt8)(bx bs:Nat)(w:World)(o:Nat→Nat):Prop where
 x:Af w bx 120 #[.pointer (some ⟨M.β,0,none⟩)]
 s:Af w bs 9 #[.string ⟨s.toArray⟩]
 ox:o bx=0
 os:o bs=0
theorem T6.cells{M:Bp}{s:List UInt8}{bx bs:Nat}{w:World}{o:Nat→Nat}(h:T6 M s bx bs w o):w.cell? ⟨bx,0,none⟩=some (.pointer (some ⟨M.β,0,none⟩))∧w.cell? ⟨bs,0,none⟩=some (.string ⟨s.toArray⟩):=⟨h.x.cell 0,h.s.cell 0⟩
theorem T6.pure{M:Bp}{s:List UInt8}{bx bs:Nat}{w w':World}{o:Nat→Nat}(h:T6 M s bx bs w o)(hb:Below w.heap.size w w'):T6 M s bx bs w' o:=⟨h.x.pure hb,h.s.pure hb,h.ox,h.os⟩
theorem Wy(M:Bp)(s:List UInt8)(w:World)(o:Nat→Nat):T6 M s w.heap.size (w.heap.size+1) ((w.alloc (.cells #[.pointer (some ⟨M.β,0,none⟩)] 120)).alloc (.cells #[.string ⟨s.toArray⟩] 9)) (Ak o w.heap.size 0):=
 ⟨(Af.new w 120 #[.pointer (some ⟨M.β,0,none⟩)]).alloc _,B5 w _ 9 #[.string ⟨s.toArray⟩],Am (by omega),Am (by omega)⟩
theorem Ao6(s:List UInt8)(b:Bd):Ox 25 s [] b=b.blob s:=by
 unfold Ox Bd.blob Bd.push;simp
theorem Ar3(f:Nat)(s:List UInt8)(b:Bd):b.str f s=match(if Ek f 2=true then Bf b.texts s else none) with
 |some a=>b.push ⟨5,bWidth s.length,a⟩
 |none=>Ox 5 s [0] b:=by
 unfold Bd.str Ox Bd.push;cases(if Ek f 2=true then Bf b.texts s else none) <;>simp
structure T4(b:Bd)(s:List UInt8):Prop where
 st:b.s.length<65536
 len:b.b.length+s.length+21≤1048576
 tx:b.texts.length≤1048575
theorem Ac2(M:Bp)(fl:Int)(b:Bd)(s:List UInt8)(bx bs:Nat)(w:World)(o:Nat→Nat)(h:BM M fl w o b)(hc:T6 M s bx bs w o)(hr:T4 b s):
  Calls Tryz.prog 336 #[.pointer (some ⟨bx,0,none⟩),.pointer (some ⟨bs,0,none⟩)] w (Cq M fl (b.blob s) w o):=by
 have HM:=Hd h;have HR:=Hd hr;obtain⟨x0,s0⟩:=hc.cells;have hlen:=Hd (show b.b.length+s.length+([]:List UInt8).length+20≤1048576 by have:=hr.len;simp;omega);clear h hc hr;go_enter Tryz.func336,Tryz.ntmps336;go_wp2_with fail;go_at_call 335;refine(P5 M fl b 25 s [] w o HM.o HR.o.st hlen.o HR.o.tx).mono ?_;intro e w1 hR;obtain rfl:=hR.1;have HT:=Hd hR;clear hR;go_wp2;go_end0;rw [←Ao6];exact HT.o
theorem Af1(M:Bp)(fl:Int)(b:Bd)(s:List UInt8)(w:World)(o:Nat→Nat)(h:BM M fl w o b)(hr:T4 b s):
  Calls Tryz.prog 249 #[.pointer (some ⟨M.β,0,none⟩),.string ⟨s.toArray⟩] w (Cq M fl (b.blob s) w o):=by
 have HR:=Hd hr;have hB:=Ba w (.cells #[.pointer (some ⟨M.β,0,none⟩)] 120) (.cells #[.string ⟨s.toArray⟩] 9);have HB:=Hd hB;have HM:=Hd (h.fresh hB 0);have HC:=Hd (Wy M s w o);clear h hr hB;go_enter Tryz.func249,Tryz.ntmps249;go_wp2_with fail;go_at_call 225;refine(Dq M fl 336 _ _ (Ak o w.heap.size 0) b.vals _ HM.o.head Tryz.call336 ((Ac2 M fl b s w.heap.size (w.heap.size+1) _ (Ak o w.heap.size 0) HM.o HC.o HR.o).mono fun e w' h=>⟨h.1,h⟩)).mono ?_;rintro e w' hR;obtain rfl:=hR.1;have HR:=Hd (hR.from_fresh HB.o);clear hR;go_wp2;go_end0;exact HR.o
theorem Age(M:Bp)(fl:Int)(b:Bd)(s:List UInt8)(bx bs:Nat)(w:World)(o:Nat→Nat)(h:BM M fl w o b)(hc:T6 M s bx bs w o)(hr:T4 b s):
  Calls Tryz.prog 334 #[.pointer (some ⟨bx,0,none⟩),.pointer (some ⟨bs,0,none⟩)] w (Cq M fl (b.str (bits fl) s) w o):=by
 have HM:=Hd h;have HR:=Hd hr;have HC:=Hd hc;obtain⟨n,hn⟩:∃n,s.length=n:=⟨_,rfl⟩;obtain⟨y,hy⟩:∃y,bWidth n=y:=⟨_,rfl⟩;have HN64:=Hd (show n<18446744073709551616 by have:=hr.len;omega);have HW:=Hd (show Vr n=(y:Int) by rw [Vs,hy]);have hwn:IntKind.u64.wrap (n:Int)=(n:Int):=B8 _ (by have:=hr.len;omega);have hsz:(⟨s.toArray⟩:ByteArray).size=n:=hn;obtain⟨g,hg⟩:∃g,Bf b.texts s=g:=⟨_,rfl⟩;obtain⟨q,hq⟩:∃q,Ek (bits fl) 2=q:=⟨_,rfl⟩;have HE:=Hd (Ar3 (bits fl) s b);obtain⟨gv,hgv⟩:∃v,g.getD 0=v:=⟨_,rfl⟩;obtain⟨had,hhad⟩:∃v,g.isSome=v:=⟨_,rfl⟩;have HG:=Hd (show Tj (Bf b.texts s)= .tuple #[.int .i64 (gv:Int),.bool had] by rw [hg];unfold Tj;rw [hgv,hhad]);have HGG:=Hd hg;have HGV:=Hd (And.intro hgv hhad);have HQ:=Hd hq;have HNY:=Hd (show bWidth s.length=y by rw [hn,hy]);have hlen:=Hd (show b.b.length+s.length+([0]:List UInt8).length+20≤1048576 by have:=hr.len;simp;omega);have HTX:=Hd (show b.texts.length≤1048576 by have:=hr.tx;omega);have HAT:=Hd (show ∀a,g=some a→a≤1048576 by
  intro a ha;obtain⟨A1,A2,n',c1,c2,ks,ns,hL,o1,o2,op,hP⟩:=h.texts.open_;rw [ha,hP.get] at hg;unfold Bf at hg;rw [Option.map_eq_some_iff] at hg;obtain⟨x,hx,rfl⟩:=hg;exact hP.at_ _ (List.of_mem_zip (List.mem_of_find?_eq_some hx)).2)
 obtain⟨a0,a1⟩:=hc.cells;obtain⟨_,a2,_,a3,_⟩:=C1 h.head;clear h hr hc hn hy hg hq hgv hhad;go_enter Tryz.func334,Tryz.ntmps334;go_wp2_with fail;go_region_held3 (fun w'=>w'.cell? ⟨bx,0,none⟩=some (.pointer (some ⟨M.β,0,none⟩))∧w'.cell? ⟨bs,0,none⟩=some (.string ⟨s.toArray⟩)∧w'.cell? ⟨M.β,3,none⟩=some (.int .i64 fl)∧w'.cell? ⟨M.β,5,none⟩=some (.pointer (some ⟨M.tb,0,none⟩))) (first|with_reducible exact⟨a0,a1,a2,a3⟩|with_reducible exact⟨Ae a0,Ae a1,Ae a2,Ae a3⟩|with_reducible exact⟨x0,x1,x2,x3⟩) (first|(go_at_call 322;(with_reducible refine(Ri 5 M.tb b.texts s _ o HM.o.drew.texts HTX.o).mono ?_);rintro e w1 ⟨rfl,hB⟩;rw [HG.o];have x0:=Ag hB (Ae a0);have x1:=Ag hB (Ae a1);have x2:=Ag hB (Ae a2);have x3:=Ag hB (Ae a3);have HB:=Hd (B6 (Jh w) hB);clear hB));have HM1:=Hd (HM.o.pure HB.o);clear a0 a1 a2 a3;obtain⟨hg,hgh⟩:=HGV.o;cases g with
 |none=>
  obtain rfl:had=false:=by rw [←hgh];rfl
  clear hg hgh;have HNO:=Hd (show(if Ek (bits fl) 2=true then Bf b.texts s else none)=none by rw [HGG.o];split <;>rfl);go_wp2_with fail;go_at_call 335;refine(P5 M fl b 5 s [0] w1 o HM1.o HR.o.st hlen.o HR.o.tx).mono ?_;intro e w2 hT;obtain rfl:=hT.1;have HT:=Hd (hT.from_pure HB.o);clear hT;go_wp2;go_end0;rw [HE.o,HNO.o];exact HT.o
 |some a=>
  obtain rfl:had=true:=by rw [←hgh];rfl
  obtain rfl:gv=a:=by rw [←hg];rfl
  have hwa:IntKind.u64.wrap (gv:Int)=(gv:Int):=B8 _ (by have:=HAT.o gv rfl;omega);clear hg hgh;go_wp2_with fail;go_at_call 323;refine(Wj M.β 2 1 fl q w1 x2 (by omega) rfl HQ.o).mono ?_;rintro e w' ⟨rfl,rfl⟩;cases q with
  |false=>
   have HNO:=Hd (show(if Ek (bits fl) 2=true then Bf b.texts s else none)=none by rw [HQ.o];rfl);go_wp2_with fail;go_at_call 335;refine(P5 M fl b 5 s [0] w1 o HM1.o HR.o.st hlen.o HR.o.tx).mono ?_;intro e w2 hT;obtain rfl:=hT.1;have HT:=Hd (hT.from_pure HB.o);clear hT;go_wp2;go_end0;rw [HE.o,HNO.o];exact HT.o
  |true=>
   have HPP:=Hd (show Calls Tryz.prog 235 #[.pointer (some ⟨M.β,0,none⟩),.agg #[.int .i64 5,.int .i64 (y:Int),.int .u64 (gv:Int)]] w1.drew (Cq M fl (b.push ⟨5,y,gv⟩) w1.drew o) from M6 M fl b 5 y gv _ o HM1.o.drew HR.o.st);go_wp2_with fail;go_region_held3 (fun w'=>w'.cell? ⟨bx,0,none⟩=some (.pointer (some ⟨M.β,0,none⟩))∧w'.cell? ⟨bs,0,none⟩=some (.string ⟨s.toArray⟩)∧w'.cell? ⟨M.β,3,none⟩=some (.int .i64 fl)∧w'.cell? ⟨M.β,5,none⟩=some (.pointer (some ⟨M.tb,0,none⟩))) (first|with_reducible exact⟨x0,x1,x2,x3⟩|with_reducible exact⟨Ae x0,Ae x1,Ae x2,Ae x3⟩|with_reducible exact⟨z0,z1,z2,z3⟩) (first|(go_at_call 54;(with_reducible refine(Lr n (y:Int) _ HN64.o HW.o).mono ?_);rintro e w' ⟨rfl,rfl⟩)|(go_at_call 235;(with_reducible refine HPP.o.mono ?_);rintro e W3 ⟨rfl,o3,hM3,hT3⟩;have HM3:=Hd hM3;have HT3:=Hd hT3.from_drew;have hC3:=((HC.o.pure HB.o).pure (Jh w1));have hx3:=hC3.x.to_ hT3 (by rw [hC3.ox];exact Bi);have hs3:=hC3.s.to_ hT3 (by rw [hC3.os];exact Bi);have z0:W3.cell? ⟨bx,0,none⟩=some (.pointer (some ⟨M.β,0,none⟩)):=hx3.cell 0;have z1:W3.cell? ⟨bs,0,none⟩=some (.string ⟨s.toArray⟩):=hs3.cell 0;obtain⟨_,z2,_,z3,_⟩:=C1 hM3.head;clear hM3 hT3 hC3 hx3 hs3));go_wp2;go_end0;rw [HE.o,show(if Ek (bits fl) 2=true then Bf b.texts s else none)=some gv by rw [HQ.o,HGG.o];rfl,HNY.o];exact⟨rfl,o3,HM3.o,(To.pure _ HB.o o).trans HT3.o⟩
theorem Ait(M:Bp)(fl:Int)(b:Bd)(s:List UInt8)(w:World)(o:Nat→Nat)(h:BM M fl w o b)(hr:T4 b s):
  Calls Tryz.prog 248 #[.pointer (some ⟨M.β,0,none⟩),.string ⟨s.toArray⟩] w (Cq M fl (b.str (bits fl) s) w o):=by
 have HR:=Hd hr;have hB:=Ba w (.cells #[.pointer (some ⟨M.β,0,none⟩)] 120) (.cells #[.string ⟨s.toArray⟩] 9);have HB:=Hd hB;have HM:=Hd (h.fresh hB 0);have HC:=Hd (Wy M s w o);clear h hr hB;go_enter Tryz.func248,Tryz.ntmps248;go_wp2_with fail;go_at_call 225;refine(Dq M fl 334 _ _ (Ak o w.heap.size 0) b.vals _ HM.o.head Tryz.call334 ((Age M fl b s w.heap.size (w.heap.size+1) _ (Ak o w.heap.size 0) HM.o HC.o HR.o).mono fun e w' h=>⟨h.1,h⟩)).mono ?_;rintro e w' hR;obtain rfl:=hR.1;have HR:=Hd (hR.from_fresh HB.o);clear hR;go_wp2;go_end0;exact HR.o
end Go.Proofs.YtgbjodnegkbfoaaGreat
