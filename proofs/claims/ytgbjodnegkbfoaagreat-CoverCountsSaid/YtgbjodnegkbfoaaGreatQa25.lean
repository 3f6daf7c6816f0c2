/- Parts of the proof. -/
import Derived.Test.YtgbjodnegkbfoaaGreatQa24
set_option maxHeartbeats 2000000
set_option maxRecDepth 100000
open Go.Value renaming int→Aa
open Go.IntKind renaming i64→Ab,u64→Ac
open Nat renaming le_refl→Ath,le_succ→Atk,lt_of_lt_of_le→Atr
open List renaming length_append→Atj,replicate→Atm
open Int renaming toNat_natCast→Ats
namespace Go.Proofs.YtgbjodnegkbfoaaGreat
open Go.RowKit Go.Acc
theorem Apm{l:List UInt8}{a:Nat}(h:¬zeroAt l a<l.length):Kl l a=213:=if_neg h
theorem Aa0{l:List UInt8}{a:Nat}(h:zeroAt l a<l.length):Kl l a=0:=if_pos h
theorem Ams(A:Option Addr)(n c a:Nat)(l:List UInt8)(w:World)(h:Cw w A n l)(hc:n≤c)(ha:a≤n)(hn:n≤9223372036854775807):
  Calls Tryz.prog 346 #[.slice A n c,Aa Ab a] w (Qe w A n l (if Kl l a=0 then a else 0) (if Kl l a=0 then My l a else []) (Kl l a)):=by
 have hlen:=h.1;subst hlen;have HI:=Hd (h.alloc (.cells #[Aa Ab 0,.slice none 0 0] 320));have HI0:=Hd h;clear h;by_cases hz:zeroAt l a<l.length
 ·rw [Aa0 hz,if_pos rfl,if_pos rfl];have hzb:=Ys (l:=l) ha;have hz1:=hzb.1;have HZ:=Hd (show My l a=(l.drop a).take (zeroAt l a-a) from rfl);rw [HZ.o];obtain⟨z,hze⟩:∃z,zeroAt l a=z:=⟨_,rfl⟩;have HZE:=Hd hze;rw [hze] at hz hz1⊢;clear hzb hze;by_cases haz:z=a
  ·subst haz;go_enter Tryz.func346,Tryz.ntmps346;go_wp2_with fail;go_at_call 393;refine(S6 A _ c z l _ HI.o ha hn).mono ?_;rw [HZE.o];rintro e w1 ⟨rfl,rfl⟩;go_wp2;refine bodyPost_ret (v:= .tuple #[.agg #[Aa Ab z,.slice A 0 0],Aa Ab 0]) (by simp [results,Tryz.results346,go_sem]) rfl ⟨A,0,0,rfl,?_,Ath _,?_⟩
   ·rw [Nat.sub_self,List.take_zero];exact fun _ _=>Is.nil _ _
   ·exact(Below.refl _ _).alloc (Ath _) _
  ·have hlt:a<z:=by omega
   have hza:¬z=a:=haz;go_enter Tryz.func346,Tryz.ntmps346;go_wp2_with fail;go_at_call 393;refine(S6 A _ c a l _ HI.o ha hn).mono ?_;rw [HZE.o];rintro e w1 ⟨rfl,rfl⟩;go_wp2;refine bodyPost_ret (v:= .tuple #[.agg #[Aa Ab a,.slice (A.map fun p=>p.add a) (z-a) (z-a)],Aa Ab 0]) (by simp [results,Tryz.results346,go_sem]) rfl ⟨_,_,_,rfl,?_,Ath _,?_⟩
   ·exact fun _ h=>O9 h (by omega)
   ·exact(Below.refl _ _).alloc (Ath _) _
 ·rw [Apm hz,if_neg (by decide),if_neg (by decide)];go_enter Tryz.func346,Tryz.ntmps346;go_wp2_with fail;go_at_call 393;refine(S6 A _ c a l _ HI.o ha hn).mono ?_;rintro e w1 ⟨rfl,rfl⟩;go_wp2;refine bodyPost_ret (v:= .tuple #[.agg #[Aa Ab 0,.slice none 0 0],Aa Ab 213]) (by simp [results,Tryz.results346,go_sem]) rfl ⟨none,0,0,rfl,fun _ _=>Is.nil _ _,Ath _,?_⟩;exact(Below.refl _ _).alloc (Ath _) _
theorem Aec(A:Option Addr)(n c lo hi:Nat)(h1:lo≤hi)(h2:hi≤n)(hc:n≤c):∃X,(∀w,(Instr.sliceAt 28 (.slice A n c) (some (Aa Ab lo)) (some (Aa Ab hi)) none).run Tryz.prog w= .ok (.slice X (hi-lo) (c-lo)) w)∧
  ∀w l,Cw w A n l→Cw w X (hi-lo) ((l.drop lo).take (hi-lo)):=by
 refine⟨if c=lo then A else A.map (·.add lo),fun w=>?_,fun w l h=>?_⟩
 ·have ht:Tryz.prog.underlying 28=some (.slice (Tryz.prog.elem 28)):=by kernel_rfl
  have hz:(sizeOf (Tryz.prog.elem 28)).run Tryz.prog w= .ok 1 w:=by kernel_rfl
  rw [run_sliceAt_slice (h:=ht),run_slice_lh (ht:=ht) (h0:=by omega) (h1:=by omega) (h2:=by omega),hz];simp [Result.andThen,sliced]
 ·split
  ·have e:hi-lo=0:=by omega
   rw [e,List.take_zero];exact Is.nil _ _
  ·exact O9 h (by omega)
theorem Aab(A:Option Addr)(n c lo hi:Nat)(h1:lo≤hi)(h2:hi≤n)(hc:n≤c):∃X,(∀w,(Instr.sliceAt 28 (.slice A n c) (some (Aa Ab lo)) (some (Aa Ab hi)) (some (Aa Ab hi))).run Tryz.prog w= .ok (.slice X (hi-lo) (hi-lo)) w)∧
  ∀w l,Cw w A n l→Cw w X (hi-lo) ((l.drop lo).take (hi-lo)):=by
 refine⟨if hi=lo then A else A.map (·.add lo),fun w=>?_,fun w l h=>?_⟩
 ·have ht:Tryz.prog.underlying 28=some (.slice (Tryz.prog.elem 28)):=by kernel_rfl
  have hz:(sizeOf (Tryz.prog.elem 28)).run Tryz.prog w= .ok 1 w:=by kernel_rfl
  rw [run_sliceAt_slice (h:=ht),run_slice_lhm (ht:=ht) (h0:=by omega) (h1:=by omega) (h2:=by omega) (h3:=by omega),hz];simp [Result.andThen,sliced]
 ·split
  ·have e:hi-lo=0:=by omega
   rw [e,List.take_zero];exact Is.nil _ _
  ·exact O9 h (by omega)
theorem Aeh{α:Type}{f:α→List Value}{w:World}{A:Option Addr}{n:Nat}{l:List α}(h:Is f w A n l):Is f w.drew A n l:=h
theorem Aio(l:List UInt8)(a v k u:Nat)(hu:loadU l ((a:Int)-v) v=u):
  (a % v≠0∧Fv l a v k=212)∨(a % v=0∧a<v∧Fv l a v k=211)∨(a % v=0∧v≤a∧l.length<a+u+k∧Fv l a v k=211)∨
  (a % v=0∧v≤a∧a+u+k≤l.length∧(l.drop (a+u)).take k=Atm k 0∧Fv l a v k=0)∨(a % v=0∧v≤a∧a+u+k≤l.length∧¬(l.drop (a+u)).take k=Atm k 0∧Fv l a v k=213):=by
 unfold Fv;rw [hu];by_cases h1:a % v=0
 ·rw [if_neg (by simpa using h1)];by_cases h2:a<v
  ·rw [if_pos h2];exact .inr (.inl ⟨h1,h2,rfl⟩)
  ·rw [if_neg h2];by_cases h3:l.length<a+u+k
   ·rw [if_pos h3];exact .inr (.inr (.inl ⟨h1,by omega,h3,rfl⟩))
   ·rw [if_neg h3];by_cases h4:(l.drop (a+u)).take k=Atm k 0
    ·rw [if_pos h4];exact .inr (.inr (.inr (.inl ⟨h1,by omega,by omega,h4,rfl⟩)))
    ·rw [if_neg h4];exact .inr (.inr (.inr (.inr ⟨h1,by omega,by omega,h4,rfl⟩)))
 ·rw [if_pos h1];exact .inl ⟨h1,rfl⟩
theorem Z6(A:Option Addr)(n c a v k:Nat)(l:List UInt8)(w:World)(h:Cw w A n l)(hc:n≤c)(ha:a≤n)(hn:n≤1099511627776)(hv:Av (v:Int)=true)(hk:k≤1):
  Calls Tryz.prog 347 #[.slice A n c,Aa Ab a,Aa Ab v,Aa Ab k] w (Qe w A n l (if Fv l a v k=0 then a else 0) (if Fv l a v k=0 then cntL l a v else []) (Fv l a v k)):=by
 have hlen:=h.1;subst hlen;have HI:=Hd (h.alloc (.cells #[Aa Ab 0,.slice none 0 0] 320));have HB:=Hd ((Below.refl w.heap.size w).alloc (Ath _) (.cells #[Aa Ab 0,.slice none 0 0] 320));have HK:=Hd (Af.new w 320 #[Aa Ab 0,.slice none 0 0]);clear h;obtain⟨u,hu⟩:∃u,loadU l ((a:Int)-v) v=u:=⟨_,rfl⟩;have HU:=Hd hu;have hv8:1≤v∧v≤8:=by have:=Ck.1 hv;omega
 have hv1:=hv8.1;have hv2:=hv8.2;have hcs:=Aio l a v k u hu;clear hu hv8;have hvz:(v==0)=false:=beq_eq_false_iff_ne.mpr (by omega);rcases hcs with⟨h1,he⟩|⟨h1,h2,he⟩|⟨h1,h2,h3,he⟩|⟨h1,h2,h3,h4,he⟩|⟨h1,h2,h3,h4,he⟩
 ·rw [he,if_neg (by decide),if_neg (by decide)];have hm:((a:Int) % (v:Int) != 0)=true:=by simp;omega
  clear he h1;go_enter Tryz.func347,Tryz.ntmps347;go_wp2;refine bodyPost_ret (v:= .tuple #[.agg #[Aa Ab 0,.slice none 0 0],Aa Ab 212]) (by simp [results,Tryz.results347,go_sem]) rfl ⟨none,0,0,rfl,fun _ _=>Is.nil _ _,Ath _,HB.o⟩
 ·rw [he,if_neg (by decide),if_neg (by decide)];have hm:((a:Int) % (v:Int) != 0)=false:=by simp;omega
  clear he h1;go_enter Tryz.func347,Tryz.ntmps347;go_wp2;refine bodyPost_ret (v:= .tuple #[.agg #[Aa Ab 0,.slice none 0 0],Aa Ab 211]) (by simp [results,Tryz.results347,go_sem]) rfl ⟨none,0,0,rfl,fun _ _=>Is.nil _ _,Ath _,HB.o⟩
 ·rw [he,if_neg (by decide),if_neg (by decide)];clear he;have hm:((a:Int) % (v:Int) != 0)=false:=by simp;omega
  have hx:decide ((a:Int)<(v:Int))=false:=by simp;omega
  clear h1;go_enter Tryz.func347,Tryz.ntmps347;go_wp2_with fail;go_at_call 167;refine(Jz A _ c ((a:Int)-v) v l _ HI.o hc (by omega)).mono ?_;rw [HU.o];obtain⟨er,her⟩:∃er,E7 l.length ((a:Int)-v) v=er:=⟨_,rfl⟩;rw [her];rintro e w1 ⟨rfl,hb⟩;have HB:=Hd (Ad HB.o hb);have HI:=Hd (HI.o.pure hb);have HK:=Hd (HK.o.pure hb);obtain ⟨c0,c1⟩:=HK.o.c2;have f0:=HK.o.frozen 0;have f1:=HK.o.frozen 1;have hn63:l.length≤9223372036854775807:=by omega
  have HWL:=Hd (B8 (l.length:Int) (by omega));clear hb her;by_cases hul:l.length<u
  ·have hwl:=HWL.o;have hd:decide ((l.length:Int)<(u:Int))=true:=by simpa using hul
   go_wp2;refine bodyPost_ret (v:= .tuple #[.agg #[Aa Ab 0,.slice none 0 0],Aa Ab 211]) (by simp [results,Tryz.results347,go_sem,c0,c1]) rfl ⟨none,0,0,rfl,fun _ _=>Is.nil _ _,Ath _,((HB.o.setCell (Ath _) _).setCell (Ath _) _)⟩
  ·have hd:decide ((l.length:Int)<(u:Int))=false:=by simpa using hul
   have W2:=Hd (Dr (u:Int) (by omega));have W3:=Hd (Dr ((u:Int)+k) (by omega));have HIN:=Hd (show Gs l.length a ((u:Int)+k)=false from decide_eq_false (by omega));have hw2:=W2.o;have hw3:=W3.o;have hwl:=HWL.o;go_wp2_with fail;go_at_call 206;refine(Da A _ c a ((u:Int)+k) _ hn63).mono ?_;rw [HIN.o];rintro e w2 ⟨rfl,rfl⟩;go_wp2;refine bodyPost_ret (v:= .tuple #[.agg #[Aa Ab 0,.slice none 0 0],Aa Ab 211]) (by simp [results,Tryz.results347,go_sem,c0,c1]) rfl ⟨none,0,0,rfl,fun _ _=>Is.nil _ _,Ath _,((HB.o.setCell (Ath _) _).setCell (Ath _) _)⟩
 ·rw [he,if_pos rfl,if_pos rfl];clear he;have HE:=Hd (show eqB ((l.drop (a+u)).take k) (Atm k 0)=true from decide_eq_true h4);clear h4;have hm:((a:Int) % (v:Int) != 0)=false:=by simp;omega
  have hx:decide ((a:Int)<(v:Int))=false:=by simp;omega
  clear h1;go_enter Tryz.func347,Tryz.ntmps347;go_wp2_with fail;go_at_call 167;refine(Jz A _ c ((a:Int)-v) v l _ HI.o hc (by omega)).mono ?_;rw [HU.o];obtain⟨er,her⟩:∃er,E7 l.length ((a:Int)-v) v=er:=⟨_,rfl⟩;rw [her];rintro e w1 ⟨rfl,hb⟩;have HB:=Hd (Ad HB.o hb);have HI:=Hd (HI.o.pure hb);have HK:=Hd (HK.o.pure hb);obtain ⟨c0,c1⟩:=HK.o.c2;have f0:=HK.o.frozen 0;have f1:=HK.o.frozen 1;have hn63:l.length≤9223372036854775807:=by omega
  have HWL:=Hd (B8 (l.length:Int) (by omega));clear hb her;have hd:decide (l.length<u)=false:=decide_eq_false (by omega);have hd2:u≤l.length:=by omega
  obtain⟨T,hT⟩:∃T,T=a+u:=⟨_,rfl⟩;obtain⟨T2,hT2⟩:∃T2,T2=T+k:=⟨_,rfl⟩;obtain⟨Z,hZ1,hZ2,hmk⟩:=Abi k (by omega);obtain⟨X,hX1,hX2⟩:=Aec A l.length c T T2 (by omega) (by omega) hc;obtain⟨Y,hY1,hY2⟩:=Aab A l.length c a T (by omega) (by omega) hc;have HIN:=Hd (show Gs l.length a ((u:Int)+k)=true from Dn.2 ⟨by omega,by omega,by omega⟩);have W2:=Hd (Dr (u:Int) (by omega));have W3:=Hd (Dr ((u:Int)+k) (by omega));have W4:=Hd ((Dr ((a:Int)+u) (by omega)).trans (show(a:Int)+u=(T:Int) by omega));have W5:=Hd ((IntWalk.i64_in ((T:Int)+(k:Int)) (by omega)).trans (show(T:Int)+k=(T2:Int) by omega));have W6:=Hd ((Dr ((T:Int)+(k:Int)) (by omega)).trans (show(T:Int)+k=(T2:Int) by omega));have s0:(0:Int)≤T:=by omega
  have s1:(T:Int)≤T2:=by omega
  have s2:(T2:Int)≤c:=by omega
  have s3:(0:Int)≤k:=by omega
  rw [show T2-T=k by omega] at hX1 hX2;rw [show T-a=u by omega] at hY1 hY2;have HX2:=Hd hX2;have HY2:=Hd hY2;have HZ2:=Hd hZ2;have HAU:=Hd (show(a:Int)+u=(T:Int) by omega);have HT:=Hd hT;rw [←hT] at HE;have HT2:=Hd hT2;clear hX2 hY2 hZ1 hZ2 hT hT2 h3;have hw2:=W2.o;have hw3:=W3.o;have hwl:=HWL.o;go_wp2_with fail;go_at_call 206;refine(Da A _ c a ((u:Int)+k) _ hn63).mono ?_;rw [HIN.o];rintro e w2 ⟨rfl,rfl⟩;clear hw3;have hw4:=W4.o;have hw5:=W5.o;have hw6:=W6.o;go_wp2_with fail;rw [←HAU.o] at hX1 hY1 hw5 hw6;have HID:=Hd (Aeh HI.o);go_region_held3 (fun w'=>w'.cell? ⟨w.heap.size,0,none⟩=some (Aa Ab 0)∧w'.cell? ⟨w.heap.size,1,none⟩=some (.slice none 0 0)) (first|assumption|exact⟨c0,c1⟩|exact⟨Ag ((Below.refl _ _).alloc (Ath _) _).drew c0,Ag ((Below.refl _ _).alloc (Ath _) _).drew c1⟩|exact⟨Ag ((Below.refl _ _).alloc (Ath _) _) c0,Ag ((Below.refl _ _).alloc (Ath _) _) c1⟩)
   (first|(go_at_call 394;refine(Sg X _ k k _ _ ((l.drop T).take k) (Atm k 0) _ (HX2.o _ _ (HID.o.alloc _)) (Aei _ Z (Atm k 0) k (by simp) HZ2.o)).mono ?_;rw [HE.o];rintro e w5 ⟨rfl,rfl⟩))
  have hbz:=(Below.refl w1.heap.size w1).alloc (Ath _) (.cells Z 5);have d0:=Ag hbz (p:=⟨w.heap.size,0,none⟩) (u:= Aa Ab 0) c0;have d1:=Ag hbz (p:=⟨w.heap.size,1,none⟩) (u:= .slice none 0 0) c1;have HF:=Hd (HK.o.pure hbz);have g0:=HF.o.frozen 0;have g1:=HF.o.frozen 1;have HB:=Hd (Ad HB.o hbz.drew);have HIz:=Hd (HI.o.pure hbz.drew);clear hbz c0 c1 f0 f1;go_wp2;refine bodyPost_ret (v:= .tuple #[.agg #[Aa Ab a,.slice Y u u],Aa Ab 0]) (by simp [results,Tryz.results347,go_sem,d0,d1]) rfl ⟨Y,u,u,rfl,?_,Ath _,(HB.o.setCell (Ath _) _).setCell (Ath _) _⟩;unfold cntL;rw [HU.o];exact fun _ h=>HY2.o _ _ h
 ·rw [he,if_neg (by decide),if_neg (by decide)];clear he;have HE:=Hd (show eqB ((l.drop (a+u)).take k) (Atm k 0)=false from decide_eq_false h4);clear h4;have hm:((a:Int) % (v:Int) != 0)=false:=by simp;omega
  have hx:decide ((a:Int)<(v:Int))=false:=by simp;omega
  clear h1;go_enter Tryz.func347,Tryz.ntmps347;go_wp2_with fail;go_at_call 167;refine(Jz A _ c ((a:Int)-v) v l _ HI.o hc (by omega)).mono ?_;rw [HU.o];obtain⟨er,her⟩:∃er,E7 l.length ((a:Int)-v) v=er:=⟨_,rfl⟩;rw [her];rintro e w1 ⟨rfl,hb⟩;have HB:=Hd (Ad HB.o hb);have HI:=Hd (HI.o.pure hb);have HK:=Hd (HK.o.pure hb);obtain ⟨c0,c1⟩:=HK.o.c2;have f0:=HK.o.frozen 0;have f1:=HK.o.frozen 1;have hn63:l.length≤9223372036854775807:=by omega
  have HWL:=Hd (B8 (l.length:Int) (by omega));clear hb her;have hd:decide (l.length<u)=false:=decide_eq_false (by omega);have hd2:u≤l.length:=by omega
  obtain⟨T,hT⟩:∃T,T=a+u:=⟨_,rfl⟩;obtain⟨T2,hT2⟩:∃T2,T2=T+k:=⟨_,rfl⟩;obtain⟨Z,hZ1,hZ2,hmk⟩:=Abi k (by omega);obtain⟨X,hX1,hX2⟩:=Aec A l.length c T T2 (by omega) (by omega) hc;obtain⟨Y,hY1,hY2⟩:=Aab A l.length c a T (by omega) (by omega) hc;have HIN:=Hd (show Gs l.length a ((u:Int)+k)=true from Dn.2 ⟨by omega,by omega,by omega⟩);have W2:=Hd (Dr (u:Int) (by omega));have W3:=Hd (Dr ((u:Int)+k) (by omega));have W4:=Hd ((Dr ((a:Int)+u) (by omega)).trans (show(a:Int)+u=(T:Int) by omega));have W5:=Hd ((IntWalk.i64_in ((T:Int)+(k:Int)) (by omega)).trans (show(T:Int)+k=(T2:Int) by omega));have W6:=Hd ((Dr ((T:Int)+(k:Int)) (by omega)).trans (show(T:Int)+k=(T2:Int) by omega));have s0:(0:Int)≤T:=by omega
  have s1:(T:Int)≤T2:=by omega
  have s2:(T2:Int)≤c:=by omega
  have s3:(0:Int)≤k:=by omega
  rw [show T2-T=k by omega] at hX1 hX2;rw [show T-a=u by omega] at hY1 hY2;have HX2:=Hd hX2;have HY2:=Hd hY2;have HZ2:=Hd hZ2;have HAU:=Hd (show(a:Int)+u=(T:Int) by omega);have HT:=Hd hT;rw [←hT] at HE;have HT2:=Hd hT2;clear hX2 hY2 hZ1 hZ2 hT hT2 h3;have hw2:=W2.o;have hw3:=W3.o;have hwl:=HWL.o;go_wp2_with fail;go_at_call 206;refine(Da A _ c a ((u:Int)+k) _ hn63).mono ?_;rw [HIN.o];rintro e w2 ⟨rfl,rfl⟩;clear hw3;have hw4:=W4.o;have hw5:=W5.o;have hw6:=W6.o;go_wp2_with fail;rw [←HAU.o] at hX1 hY1 hw5 hw6;have HID:=Hd (Aeh HI.o);go_region_held3 (fun w'=>w'.cell? ⟨w.heap.size,0,none⟩=some (Aa Ab 0)∧w'.cell? ⟨w.heap.size,1,none⟩=some (.slice none 0 0)) (first|assumption|exact⟨c0,c1⟩|exact⟨Ag ((Below.refl _ _).alloc (Ath _) _).drew c0,Ag ((Below.refl _ _).alloc (Ath _) _).drew c1⟩|exact⟨Ag ((Below.refl _ _).alloc (Ath _) _) c0,Ag ((Below.refl _ _).alloc (Ath _) _) c1⟩)
   (first|(go_at_call 394;refine(Sg X _ k k _ _ ((l.drop T).take k) (Atm k 0) _ (HX2.o _ _ (HID.o.alloc _)) (Aei _ Z (Atm k 0) k (by simp) HZ2.o)).mono ?_;rw [HE.o];rintro e w5 ⟨rfl,rfl⟩))
  have hbz:=(Below.refl w1.heap.size w1).alloc (Ath _) (.cells Z 5);have d0:=Ag hbz (p:=⟨w.heap.size,0,none⟩) (u:= Aa Ab 0) c0;have d1:=Ag hbz (p:=⟨w.heap.size,1,none⟩) (u:= .slice none 0 0) c1;have HF:=Hd (HK.o.pure hbz);have g0:=HF.o.frozen 0;have g1:=HF.o.frozen 1;have HB:=Hd (Ad HB.o hbz.drew);have HIz:=Hd (HI.o.pure hbz.drew);clear hbz c0 c1 f0 f1;go_wp2;refine bodyPost_ret (v:= .tuple #[.agg #[Aa Ab 0,.slice none 0 0],Aa Ab 213]) (by simp [results,Tryz.results347,go_sem,d0,d1]) rfl ⟨none,0,0,rfl,fun _ _=>Is.nil _ _,Ath _,(HB.o.setCell (Ath _) _).setCell (Ath _) _⟩
def Fw(ts:List Nat)(t:Int):Bool:=ts.contains t.toNat
def Dc(l:List UInt8)(p q t v:Int)(ts:List Nat):Int:=
 if Bm l.length p q t v≠0 then Bm l.length p q t v
 else if Fw ts t=false then 60
 else if Bh l p q t v≠0 then Bh l p q t v
 else if t=4 then Kl l (Bg l p q t v).toNat
 else Fv l (Bg l p q t v).toNat v.toNat (if t=5 then 1 else 0)
def Cm(l:List UInt8)(p q t v:Int)(ts:List Nat):Int:=if Dc l p q t v ts=0 then Bg l p q t v else 0
def D5(l:List UInt8)(p q t v:Int)(ts:List Nat):List UInt8:=
 if Dc l p q t v ts=0 then(if t=4 then My l (Bg l p q t v).toNat else cntL l (Bg l p q t v).toNat v.toNat) else []
theorem Amp{ts:List Nat}{t:Int}(hts:∀x∈ts,x<256)(h0:0≤t)(h1:t<37):(ts.map UInt8.ofNat).contains (UInt8.ofNat t.toNat)=Fw ts t:=by
 unfold Fw
 induction ts with
 |nil=>simp
 |cons x ts ih=>
  rw [List.map_cons,List.contains_cons,List.contains_cons,ih (fun y hy=>hts y (List.mem_cons_of_mem _ hy))]
  congr 1
  have hx:=hts x (List.mem_cons_self ..);rw [Bool.eq_iff_iff];simp only [beq_iff_eq];constructor
  ·intro e;have:=congrArg UInt8.toNat e;rw [UInt8.toNat_ofNat',UInt8.toNat_ofNat'] at this;omega
  ·intro e;rw [e]
theorem Wx{l:List UInt8}{p q t v:Int}(h:Bh l p q t v=0):0≤Bg l p q t v∧Bg l p q t v≤l.length:=by
 have hm:Bm l.length p q t v=0:=by
  by_cases e:Bm l.length p q t v=0
  ·exact e
  ·rw [Nb e] at h;exact absurd h e
 obtain⟨_,h2⟩:=D7.1 hm;obtain⟨h1,_⟩:=D7.1 hm;have h2:=Dn.1 h2;have h1:=Cv.1 h1;have hq:=Ck.1 h1.2.1;unfold Bh at h;rw [if_pos hm] at h;unfold Bg;have h':Bh l p q t v=0:=by unfold Bh;rw [if_pos hm];exact h
 rw [if_pos h'];split at h
 ·cases h
 ·split at h
  ·cases h
  ·omega
theorem S9{w w':World}{A:Option Addr}{n:Nat}{l:List UInt8}{p q t v er:Int}{ts:List Nat}(h:Dc l p q t v ts=er)(hne:er≠0)(hb:Below w.heap.size w w'):Qe w A n l (Cm l p q t v ts) (D5 l p q t v ts) (Dc l p q t v ts) (.returned (.tuple #[.agg #[Aa Ab 0,.slice none 0 0],Aa Ab er])) w':=by
 unfold Cm D5;rw [h,if_neg hne,if_neg hne];exact⟨none,0,0,rfl,fun _ _=>Is.nil _ _,Ath _,hb⟩
theorem P8(A:Option Addr)(n c a V K:Nat)(v k:Int)(l:List UInt8)(w:World)(h:Cw w A n l)(hc:n≤c)(ha:a≤n)(hn:n≤1099511627776)(hv:Av (V:Int)=true)(hk:K≤1)(hv2:v=V)(hk2:k=K):
  Calls Tryz.prog 347 #[.slice A n c,Aa Ab a,Aa Ab v,Aa Ab k] w (Qe w A n l (if Fv l a V K=0 then a else 0) (if Fv l a V K=0 then cntL l a V else []) (Fv l a V K)):=by
 subst hv2 hk2;exact Z6 A n c a V K l w h hc ha hn hv hk
theorem Ai4(A:Option Addr)(n c:Nat)(p q t v:Int)(T:Option Addr)(m d:Nat)(ts:List Nat)(l:List UInt8)(w:World)(h:Cw w A n l)(hT:Is tc w T m ts)(hc:n≤c)(hn:n≤1099511627776)(hm:0<m∧m≤100)(hts:∀x∈ts,x<256):
  Calls Tryz.prog 281 #[.slice A n c,.agg #[Aa Ab p,Aa Ab q,Aa Ab t,Aa Ab v],.slice T m d] w (Qe w A n l (Cm l p q t v ts) (D5 l p q t v ts) (Dc l p q t v ts)):=by
 have hlen:=h.1;subst hlen;have HL:=Hd ((h.alloc (.cells #[Aa Ab p,Aa Ab q,Aa Ab t,Aa Ab v] 75)).alloc (.cells #[Aa Ab 0,.slice none 0 0] 320));have HTY:=Hd ((hT.alloc (.cells #[Aa Ab p,Aa Ab q,Aa Ab t,Aa Ab v] 75)).alloc (.cells #[Aa Ab 0,.slice none 0 0] 320));have HK:=Hd ((Af.new w 75 #[Aa Ab p,Aa Ab q,Aa Ab t,Aa Ab v]).alloc (.cells #[Aa Ab 0,.slice none 0 0] 320));have HR:=Hd (Af.new_ (w:=w.alloc (.cells #[Aa Ab p,Aa Ab q,Aa Ab t,Aa Ab v] 75)) (g:=w.heap.size+1) (by simp) 320 #[Aa Ab 0,.slice none 0 0]);have HB:=Hd (((Below.refl w.heap.size w).alloc (Ath _) (.cells #[Aa Ab p,Aa Ab q,Aa Ab t,Aa Ab v] 75)).alloc (by simp) (.cells #[Aa Ab 0,.slice none 0 0] 320));have HTS:=Hd hts;have hn63:l.length≤9223372036854775807:=by omega
 have hm1:=hm.1;have hm2:=hm.2;have HL0:=Hd h;clear h hT hts hm;go_enter Tryz.func281,Tryz.ntmps281;go_wp2_with fail;go_at_call 123;refine(M4 A _ c p q t v _ hn63).mono ?_;rintro e w1 ⟨rfl,hb⟩;by_cases hmay:Bm l.length p q t v=0
 ·rw [hmay];have HB:=Hd (Ad HB.o hb);have HK:=Hd (HK.o.pure hb);have HL:=Hd (HL.o.pure hb);have HTY:=Hd (HTY.o.pure hb);have HR:=Hd (HR.o.pure hb);have c0:=Az HK.o;have c1:=Ax HK.o;have c2:=Aw HK.o;have c3:=A6 HK.o;have f0:=HR.o.frozen 0;have f1:=HR.o.frozen 1;obtain ⟨d0,d1⟩:=HR.o.c2;clear hb;have ht37:=F9.1 (Gv (Cv.1 (D7.1 hmay).1).1);have ht0:=ht37.1;have ht1:=ht37.2;have HIN:=Hd ((Apg (ts.map UInt8.ofNat) (UInt8.ofNat t.toNat)).trans (by rw [Amp HTS.o ht0 ht1]));have hwt:IntKind.u8.wrap t=((UInt8.ofNat t.toNat).toNat:Int):=by
   rw [IntKind.wrap_u8,UInt8.toNat_ofNat'];omega
  have HWT:=Hd hwt;clear ht37 hwt;go_wp2_with fail;have HTYD:Hid (Is tc w1.drew T m ts):=Hd (show Is tc w1 T m ts from HTY.o);go_region_held3 (fun w'=>w'.cell? ⟨w.heap.size,2,none⟩=some (Aa Ab t)) (first|assumption|exact Ag HB5.o c2)
   (first
   |(go_at_call 345;refine(Alw T m d ts _ HTYD.o hm2 HTS.o).mono ?_;rintro e w5 ⟨AX,nX,cX,rfl,hOX,hb5⟩;have HOX:=Hd hOX;have HB5:=Hd hb5;clear hOX hb5)
   |(go_at_call 344;refine(Ah4 AX nX cX _ (UInt8.ofNat t.toNat) _ _ HOX.o.is (by have h1:=HOX.o.1;have h2:=HTYD.o.1;rw [List.length_map] at h1;omega) HWT.o).mono ?_;rintro e w6 ⟨rfl,rfl⟩))
  have hb:=Ad (Below.refl w1.heap.size w1).drew HB5.o;rw [HIN.o];clear c0 c1 c2 c3 f0 f1 d0 d1;have HB:=Hd (Ad HB.o hb);have HK:=Hd (HK.o.pure hb);have HL:=Hd (HL.o.pure hb);have HTY:=Hd (HTY.o.pure hb);have HR:=Hd (HR.o.pure hb);have c0:=Az HK.o;have c1:=Ax HK.o;have c2:=Aw HK.o;have c3:=A6 HK.o;have f0:=HR.o.frozen 0;have f1:=HR.o.frozen 1;obtain ⟨d0,d1⟩:=HR.o.c2;clear hb;clear HOX HB5 HTYD HWT HIN;cases hin:Fw ts t with
  |false=>
   have HE:=Hd (show Dc l p q t v ts=60 by unfold Dc;rw [if_neg (by simpa using hmay),if_pos hin]);clear hin hmay;go_wp2;refine bodyPost_ret (v:= .tuple #[.agg #[Aa Ab 0,.slice none 0 0],Aa Ab (60)]) (by simp [results,Tryz.results281,go_sem,d0,d1]) rfl ?_;exact S9 HE.o (by decide) ((HB.o.setCell (Atk _) _).setCell (Atk _) _)
  |true=>
   have HE0:=Hd (show Dc l p q t v ts=if Bh l p q t v≠0 then Bh l p q t v else if t=4 then Kl l (Bg l p q t v).toNat else Fv l (Bg l p q t v).toNat v.toNat (if t=5 then 1 else 0) by unfold Dc;rw [if_neg (by simpa using hmay),if_neg (by simp [hin])]);clear hin;have hv8:=(Cv.1 (D7.1 hmay).1).2.2;obtain⟨V,hV⟩:∃V:Nat,v=V:=⟨v.toNat,by have:=Ck.1 hv8;omega⟩;have HV:=Hd (show Av (V:Int)=true by rw [←hV];exact hv8);have HVE:=Hd hV;have hvn:v.toNat=V:=by omega
   rw [hvn] at HE0;clear hmay hv8 hV;go_wp2_with fail;go_at_call 91;refine(G2 A _ c p q t v l _ HL.o hc hn63).mono ?_;rintro e w2 ⟨rfl,hb⟩;clear c0 c1 c2 c3 f0 f1 d0 d1;have HB:=Hd (Ad HB.o hb);have HK:=Hd (HK.o.pure hb);have HL:=Hd (HL.o.pure hb);have HTY:=Hd (HTY.o.pure hb);have HR:=Hd (HR.o.pure hb);have c0:=Az HK.o;have c1:=Ax HK.o;have c2:=Aw HK.o;have c3:=A6 HK.o;have f0:=HR.o.frozen 0;have f1:=HR.o.frozen 1;obtain ⟨d0,d1⟩:=HR.o.c2;clear hb;by_cases hte:Bh l p q t v=0
   ·rw [hte];have HE1:=Hd (show Dc l p q t v ts=if t=4 then Kl l (Bg l p q t v).toNat else Fv l (Bg l p q t v).toNat V (if t=5 then 1 else 0) by rw [HE0.o,if_neg (by simpa using hte)]);have hr:=Wx hte;have HG:=Hd (show ∀er:Int,Dc l p q t v ts=er→Cm l p q t v ts=(if er=0 then Bg l p q t v else 0)∧D5 l p q t v ts=(if er=0 then(if t=4 then My l (Bg l p q t v).toNat else cntL l (Bg l p q t v).toNat V) else []) from fun er h=>⟨by unfold Cm;rw [h],by unfold D5;rw [h,hvn]⟩);obtain⟨a,ha⟩:∃a:Nat,Bg l p q t v=a:=⟨(Bg l p q t v).toNat,by omega⟩;rw [ha] at HG HE1 hr⊢;have hal:a≤l.length:=by omega
    clear hte hr HE0 ha;by_cases h4:t=4
    ·have HE2:=Hd (HE1.o.trans (if_pos h4));have e4:(t==4)=true:=beq_iff_eq.2 h4;have H4:=Hd h4;clear h4;go_wp2_with fail;obtain⟨ka,hka⟩:∃x,(if Kl l a=0 then(a:Int) else 0)=x:=⟨_,rfl⟩;obtain⟨kl,hkl⟩:∃x,(if Kl l a=0 then My l a else [])=x:=⟨_,rfl⟩;obtain⟨ke,hke⟩:∃x,Kl l a=x:=⟨_,rfl⟩;have HP:=Hd (show Cm l p q t v ts=ka∧D5 l p q t v ts=kl∧Dc l p q t v ts=ke from by
      have hg:=HG.o _ HE2.o;rw [Ats,if_pos H4.o] at hg;exact⟨hg.1.trans hka,hg.2.trans hkl,HE2.o.trans hke⟩)
     go_at_call 346;refine(Ams A _ c a l _ HL.o hc hal hn63).mono ?_;rw [hka,hkl,hke];clear hka hkl hke;rintro e w3 ⟨AY,nY,cY,rfl,hY,hcY,hb⟩;clear c0 c1 c2 c3 f0 f1 d0 d1;have HB:=Hd (Ad HB.o hb);have HK:=Hd (HK.o.pure hb);have HL:=Hd (HL.o.pure hb);have HTY:=Hd (HTY.o.pure hb);have HR:=Hd (HR.o.pure hb);have c0:=Az HK.o;have c1:=Ax HK.o;have c2:=Aw HK.o;have c3:=A6 HK.o;have f0:=HR.o.frozen 0;have f1:=HR.o.frozen 1;obtain ⟨d0,d1⟩:=HR.o.c2;clear hb;have HY:=Hd hY;clear hY;go_wp2;refine bodyPost_ret (v:= .tuple #[.agg #[Aa Ab ka,.slice AY nY cY],Aa Ab ke]) (by simp [results,Tryz.results281,go_sem,d0,d1]) rfl ?_;rw [HP.o.1,HP.o.2.1,HP.o.2.2];exact⟨AY,nY,cY,rfl,HY.o,hcY,(HB.o.setCell (Atk _) _).setCell (Atk _) _⟩
    ·have e4:(t==4)=false:=beq_eq_false_iff_ne.2 h4;by_cases h5:t=5
     ·have HE2:=Hd ((HE1.o.trans (if_neg h4)).trans (by rw [if_pos h5]));have e5:(t==5)=true:=beq_iff_eq.2 h5;have H4:=Hd h4;clear h4 h5;go_wp2_with fail;obtain⟨ka,hka⟩:∃x,(if Fv l a V 1=0 then(a:Int) else 0)=x:=⟨_,rfl⟩;obtain⟨kl,hkl⟩:∃x,(if Fv l a V 1=0 then cntL l a V else [])=x:=⟨_,rfl⟩;obtain⟨ke,hke⟩:∃x,Fv l a V 1=x:=⟨_,rfl⟩;have HP:=Hd (show Cm l p q t v ts=ka∧D5 l p q t v ts=kl∧Dc l p q t v ts=ke from by
       have hg:=HG.o _ HE2.o;rw [Ats,if_neg H4.o] at hg;rw [Ats] at HE2;exact⟨hg.1.trans hka,hg.2.trans hkl,HE2.o.trans hke⟩)
      go_at_call 347;refine(P8 A _ c a V 1 v 1 l _ HL.o hc hal hn HV.o (by omega) HVE.o rfl).mono ?_;rw [hka,hkl,hke];clear hka hkl hke;rintro e w3 ⟨AY,nY,cY,rfl,hY,hcY,hb⟩;clear c0 c1 c2 c3 f0 f1 d0 d1;have HB:=Hd (Ad HB.o hb);have HK:=Hd (HK.o.pure hb);have HL:=Hd (HL.o.pure hb);have HTY:=Hd (HTY.o.pure hb);have HR:=Hd (HR.o.pure hb);have c0:=Az HK.o;have c1:=Ax HK.o;have c2:=Aw HK.o;have c3:=A6 HK.o;have f0:=HR.o.frozen 0;have f1:=HR.o.frozen 1;obtain ⟨d0,d1⟩:=HR.o.c2;clear hb;have HY:=Hd hY;clear hY;go_wp2;refine bodyPost_ret (v:= .tuple #[.agg #[Aa Ab ka,.slice AY nY cY],Aa Ab ke]) (by simp [results,Tryz.results281,go_sem,d0,d1]) rfl ?_;rw [HP.o.1,HP.o.2.1,HP.o.2.2];exact⟨AY,nY,cY,rfl,HY.o,hcY,(HB.o.setCell (Atk _) _).setCell (Atk _) _⟩
     ·have HE2:=Hd ((HE1.o.trans (if_neg h4)).trans (by rw [if_neg h5]));have e5:(t==5)=false:=beq_eq_false_iff_ne.2 h5;have H4:=Hd h4;clear h4 h5;go_wp2_with fail;obtain⟨ka,hka⟩:∃x,(if Fv l a V 0=0 then(a:Int) else 0)=x:=⟨_,rfl⟩;obtain⟨kl,hkl⟩:∃x,(if Fv l a V 0=0 then cntL l a V else [])=x:=⟨_,rfl⟩;obtain⟨ke,hke⟩:∃x,Fv l a V 0=x:=⟨_,rfl⟩;have HP:=Hd (show Cm l p q t v ts=ka∧D5 l p q t v ts=kl∧Dc l p q t v ts=ke from by
       have hg:=HG.o _ HE2.o;rw [Ats,if_neg H4.o] at hg;rw [Ats] at HE2;exact⟨hg.1.trans hka,hg.2.trans hkl,HE2.o.trans hke⟩)
      go_at_call 347;refine(P8 A _ c a V 0 v 0 l _ HL.o hc hal hn HV.o (by omega) HVE.o rfl).mono ?_;rw [hka,hkl,hke];clear hka hkl hke;rintro e w3 ⟨AY,nY,cY,rfl,hY,hcY,hb⟩;clear c0 c1 c2 c3 f0 f1 d0 d1;have HB:=Hd (Ad HB.o hb);have HK:=Hd (HK.o.pure hb);have HL:=Hd (HL.o.pure hb);have HTY:=Hd (HTY.o.pure hb);have HR:=Hd (HR.o.pure hb);have c0:=Az HK.o;have c1:=Ax HK.o;have c2:=Aw HK.o;have c3:=A6 HK.o;have f0:=HR.o.frozen 0;have f1:=HR.o.frozen 1;obtain ⟨d0,d1⟩:=HR.o.c2;clear hb;have HY:=Hd hY;clear hY;go_wp2;refine bodyPost_ret (v:= .tuple #[.agg #[Aa Ab ka,.slice AY nY cY],Aa Ab ke]) (by simp [results,Tryz.results281,go_sem,d0,d1]) rfl ?_;rw [HP.o.1,HP.o.2.1,HP.o.2.2];exact⟨AY,nY,cY,rfl,HY.o,hcY,(HB.o.setCell (Atk _) _).setCell (Atk _) _⟩
   ·have HE:=Hd (show Dc l p q t v ts=Bh l p q t v by rw [HE0.o,if_pos hte]);have HNE:=Hd hte;have hne:(Bh l p q t v != 0)=true:=by simpa using hte
    clear hte;go_wp2;refine bodyPost_ret (v:= .tuple #[.agg #[Aa Ab 0,.slice none 0 0],Aa Ab ((Bh l p q t v))]) (by simp [results,Tryz.results281,go_sem,d0,d1]) rfl ?_;exact S9 HE.o HNE.o ((HB.o.setCell (Atk _) _).setCell (Atk _) _)
 ·have HE:=Hd (show Dc l p q t v ts=Bm l.length p q t v by unfold Dc;rw [if_pos hmay]);have HNE:=Hd hmay;have hne:(Bm l.length p q t v != 0)=true:=by simpa using hmay
  have HB:=Hd (Ad HB.o hb);have HK:=Hd (HK.o.pure hb);have HL:=Hd (HL.o.pure hb);have HTY:=Hd (HTY.o.pure hb);have HR:=Hd (HR.o.pure hb);have c0:=Az HK.o;have c1:=Ax HK.o;have c2:=Aw HK.o;have c3:=A6 HK.o;have f0:=HR.o.frozen 0;have f1:=HR.o.frozen 1;obtain ⟨d0,d1⟩:=HR.o.c2;clear hb;clear hmay;go_wp2;refine bodyPost_ret (v:= .tuple #[.agg #[Aa Ab 0,.slice none 0 0],Aa Ab ((Bm l.length p q t v))]) (by simp [results,Tryz.results281,go_sem,d0,d1]) rfl ?_;exact S9 HE.o HNE.o ((HB.o.setCell (Atk _) _).setCell (Atk _) _)
theorem As4{w:World}{g n:Nat}(ts:List Nat)(vs:Array Value)(hB:Af w g 3 vs)(hn:ts.length=n)(h:vs.toList=ts.flatMap tc):Is tc w (some ⟨g,0,none⟩) n ts:=by
 refine⟨hn,fun j u hu=>⟨_,_,rfl,?_⟩⟩;rw [Nat.zero_add,hB.cell j];rw [←h] at hu;simpa using hu
theorem Ag7(A:Option Addr)(n c:Nat)(p q t v:Int)(l:List UInt8)(w:World)(h:Cw w A n l)(hc:n≤c)(hn:n≤1099511627776):
  Calls Tryz.prog 187 #[.slice A n c,.agg #[Aa Ab p,Aa Ab q,Aa Ab t,Aa Ab v]] w fun e w'=>e= .returned (.tuple #[Aa Ab (Cm l p q t v [4,5,25]),Aa Ab ((D5 l p q t v [4,5,25]).length:Nat),Aa Ab (Dc l p q t v [4,5,25])])∧Below w.heap.size w w':=by
 have HL:=Hd ((h.alloc (.cells #[Aa Ab p,Aa Ab q,Aa Ab t,Aa Ab v] 75)).alloc (.cells #[Aa Ab 4,Aa Ab 5,Aa Ab 25] 3));have HT:=Hd (As4 (w:=(w.alloc (.cells #[Aa Ab p,Aa Ab q,Aa Ab t,Aa Ab v] 75)).alloc (.cells #[Aa Ab 4,Aa Ab 5,Aa Ab 25] 3)) (g:=w.heap.size+1) (n:=3) [4,5,25] _ (Af.new_ (by simp) _ _) rfl rfl);have HB:=Hd (((Below.refl w.heap.size w).alloc (Ath _) (.cells #[Aa Ab p,Aa Ab q,Aa Ab t,Aa Ab v] 75)).alloc (by simp) (.cells #[Aa Ab 4,Aa Ab 5,Aa Ab 25] 3));have HL0:=Hd h;clear h;go_enter Tryz.func187,Tryz.ntmps187;go_wp2_with fail;go_at_call 281;refine(Ai4 A n c p q t v _ 3 3 [4,5,25] l _ HL.o HT.o hc hn (by decide) (by decide)).mono ?_;rintro e w1 ⟨AX,nX,cX,rfl,hX,hcX,hb⟩;have HB:=Hd (Ad HB.o hb);have HN:=Hd (hX w HL0.o).1;clear hX hb;go_wp2_with fail;go_quiet (fail);go_wp2;go_ret3;refine⟨?_,?_⟩
 ·rw [HN.o];rfl
 ·exact below_drewN (HB.o.alloc HB.o.size _) _
theorem L7{w:Nat}(b:List UInt8)(hw:Av (w:Int)=true):(Ah w b).length≤b.length+8:=by
 simp only [Ah,Atj,List.length_replicate,Jk];rcases C8 hw with rfl|rfl|rfl|rfl <;>omega
theorem Ai5{l:List UInt8}{v:Bv}(ht:Be v.t=true)(hv:Av (v.w:Int)=true)(hf:Dx l.length v)(hl:l.length+20≤1048576):Afm l v (leastW (Cu v l.length 0)):=by
 obtain⟨hw,hfit⟩:=Nn (Cu v l.length 0) (Qz hf 0);have hw:=Cc.2 hw;obtain⟨y,hy⟩:∃y,leastW (Cu v l.length 0)=y:=⟨_,rfl⟩;rw [hy] at hw hfit⊢;obtain⟨a1,a2,a3⟩:=Hf hw l;cases hi:inl v.t with
 |true=>
  have he:B9 y (Ah y l).length v=v.n % 2^(8*y):=by unfold B9;rw [if_pos hi]
  exact⟨ht,hv,hy,hw,by rw [he];exact Ji _ _,by rw [he];exact M3 _ hw,(fun h=>absurd hi (by rw [h];decide)),hl⟩
 |false=>
  obtain⟨h1,h2⟩:=Mr hi hfit;have he:B9 y (Ah y l).length v=(Ah y l).length-v.n:=by unfold B9;rw [if_neg (by rw [hi];decide)]
  have h8:=L7 l hw;rw [Nat.zero_mul,Nat.add_zero,←a1] at h2;have hlt:=E4 hw (by omega) h2;exact⟨ht,hv,hy,hw,by rw [he];exact decide_eq_true (.inr hlt),by rw [he];omega,fun _=>by omega,hl⟩
theorem Alo{L s:List UInt8}{a:Nat}(h:At L a (s++ [0]))(h0:(0:UInt8)∉s):zeroAt L a=a+s.length∧a+s.length<L.length:=by
 have hle:=h.le;rw [Atj,List.length_singleton] at hle;refine⟨?_,by omega⟩;obtain⟨p,q,rfl,rfl⟩:=h;unfold zeroAt;rw [show p++(s++ [0])++q=p++(s++([0]++q)) by simp only [List.append_assoc],List.drop_left,List.findIdx_append];have hn:s.findIdx (· ==0)=s.length:=by
  rw [List.findIdx_eq_length];intro c hc;cases hb:(c==0) with
  |false=>rfl
  |true=>exact absurd (by rw [beq_iff_eq] at hb;rw [←hb];exact hc) h0
 rw [hn,if_neg (Nat.lt_irrefl _)];simp [List.findIdx_cons]
theorem Apn{L s:List UInt8}{a:Nat}(h:At L a (s++ [0]))(h0:(0:UInt8)∉s):Kl L a=0∧My L a=s:=by
 obtain⟨h1,h2⟩:=Alo h h0;refine⟨Aa0 (by omega),?_⟩;unfold My;rw [h1,show a+s.length-a=s.length by omega];exact(h.left).take
theorem Apb{L s z:List UInt8}{c w k:Nat}(hw:Av (w:Int)=true)(hc:c % w=0)(h:At L c (Ai w s.length++s++z))(hs:s.length<2^(8*w))(hz:z=Atm k 0):Fv L (c+w) w k=0∧cntL L (c+w) w=s:=by
 have h1:=h.left.left;have h2:=h.left.right;have h3:=h.right;rw [Aj] at h2;rw [Atj,Aj] at h3;have hl:loadU L (((c+w:Nat):Int)-(w:Int)) w=s.length:=by
  rw [show((c+w:Nat):Int)-(w:Int)=(c:Int) by omega,h1.load hw,Hy,Nat.mod_eq_of_lt hs]
 have hle:=h3.le;have ht:=h3.take;have hzl:z.length=k:=by rw [hz];simp
 rw [hzl] at hle ht;have hm:(c+w) % w=0:=by rw [Nat.add_mod_right];exact hc
 refine⟨?_,?_⟩
 ·unfold Fv;rw [if_neg (by omega),if_neg (by omega),hl,if_neg (by omega),if_pos];rw [show c+w+s.length=c+(w+s.length) by omega,ht,hz]
 ·unfold cntL;rw [hl];exact h2.take
theorem Arc(f:Nat){t:Tr}(h:Ff t)(hc:t.cost≤65000):∃v y,(Bd.calls f (Aq t) Bd.new).s=[v]∧Afm (Bd.calls f (Aq t) Bd.new).b v y∧Cp (Bd.calls f (Aq t) Bd.new).b v y=E0 f (Aq t):=by
 obtain⟨v,e,r⟩:=Aib f (Aq t) (Vp h);obtain⟨h1,h2,h3⟩:=r.legal (Na h);have hs:=I0 f (Aq t) (Vp h) Bd.new Mu;rw [Ij t h] at hs;have hb:(Bd.calls f (Aq t) Bd.new).b.length≤(Bd.calls f (Aq t) Bd.new).size:=by unfold Bd.size;omega
 have hz:Bd.new.size=0:=rfl;have e':(Bd.calls f (Aq t) Bd.new).s=[v]:=e;exact⟨v,_,e',Ai5 h1 h2 r.fit (by omega),by simp only [E0,Bd.finish,e',Cp]⟩
theorem Af0(fl:Int){x:Nv}{t:Tr}{p:Nat→Prop}{w:World}(h:Bk w p x t)(hp:∀k,p k→k<w.heap.size)(hca:Li (Aq t))(hc:t.cost≤65000)(he:(Fa F6 0 t 0).1=0):
  Calls Tryz.prog 42 #[.agg #[Aa Ab x.k,Aa Ab x.n,Aa Ac (x.u:Int),.string ⟨x.s.toArray⟩,.slice x.A x.an x.ac,.slice x.B x.bn x.bc],Aa Ab fl,Aa Ab 1048576] w (Zg w (E0 (bits fl) (Aq t))):=by
 have hv:=H0 Kg t 0 0 he;obtain⟨v,y,es,hf,ed⟩:=Arc (bits fl) hv hc;have HV:=Hd (And.intro es hf);have HD:=Hd ed;have HCA:=Hd hca;have HCO:=Hd (show Bd.new.size+(Aq t).cost≤65000 by rw [Ij t hv];have hz:Bd.new.size=0:=rfl;omega);have hb:=(Below.refl w.heap.size w).alloc (Ath _) (.cells #[Aa Ab x.k,Aa Ab x.n,Aa Ac (x.u:Int),.string ⟨x.s.toArray⟩,.slice x.A x.an x.ac,.slice x.B x.bn x.bc] 26);have HB:=Hd hb;have HX:=Hd (Af.new w 26 #[Aa Ab x.k,Aa Ab x.n,Aa Ac (x.u:Int),.string ⟨x.s.toArray⟩,.slice x.A x.an x.ac,.slice x.B x.bn x.bc]);have HS:=Hd (Qb (h.pure hb) (fun k hk=>Atr (hp k hk) hb.size) (by omega) he);obtain⟨b',hb'⟩:∃b',Bd.calls (bits fl) (Aq t) Bd.new=b':=⟨_,rfl⟩;rw [hb'] at HV HD;have HBB:=Hd hb';clear h hp hca hc he hv es hf ed hb hb';go_enter Tryz.func42,Tryz.ntmps42;go_wp2_with fail;go_at_call 37;refine HS.o.mono ?_;rintro e w1 ⟨z,rfl,hN1,hb1⟩;have HB1:=Hd (Ad HB.o hb1);have HN1:=Hd hN1;have HL1:=Hd (show(w.alloc (.cells #[Aa Ab x.k,Aa Ab x.n,Aa Ac (x.u:Int),.string ⟨x.s.toArray⟩,.slice x.A x.an x.ac,.slice x.B x.bn x.bc] 26)).heap.size≤w1.heap.size from hb1.size);clear hN1 hb1;have hB2:=(Below.refl w1.heap.size w1).alloc (Ath _) (.cells #[Aa Ab z.k,Aa Ab z.n,Aa Ac (z.u:Int),.string ⟨z.s.toArray⟩,.slice z.A z.an z.ac,.slice z.B z.bn z.bc] 26);have HX2:=Hd (Af.new w1 26 #[Aa Ab z.k,Aa Ab z.n,Aa Ac (z.u:Int),.string ⟨z.s.toArray⟩,.slice z.A z.an z.ac,.slice z.B z.bn z.bc]);have HB2:=Hd (Ad HB1.o hB2);have HN2:=Hd (HN1.o.pure hB2);have HL2:=Hd (show w1.heap.size≤(w1.alloc (.cells #[Aa Ab z.k,Aa Ab z.n,Aa Ac (z.u:Int),.string ⟨z.s.toArray⟩,.slice z.A z.an z.ac,.slice z.B z.bn z.bc] 26)).heap.size from hB2.size);clear hB2;go_wp2_with fail;go_at_call 82;refine(Aim fl _ (fun _=>0)).mono ?_;rintro e w3 ⟨M,o3,rfl,hM,hT⟩;have hb3:=hT.below (fun _ _ h=>h);have HX3:=Hd (HX2.o.pure hb3);have HM3:=Hd hM;have HT3:=Hd (hT.mono (J:=B7) fun _ h=>h.elim);have HB3:=Hd (Ad HB2.o hb3);have HC3:=Hd (HCA.o M fl Bd.new z w3 o3 _ hM Mu Ap1 (HN2.o.pure hb3) (fun k hk=>by have h1:=HL2.o;exact⟨by have h2:=hb3.size;omega,hT.ow k (by omega)⟩) HCO.o);rw [HBB.o] at HC3;obtain ⟨x0,x1,x2,x3,x4,x5⟩:=HX3.o.c6;clear hM hT hb3;go_wp2_with fail;go_at_call 83;refine HC3.o.mono ?_;rintro e w4 ⟨rfl,o4,hM4,hT4⟩;have HM4:=Hd hM4;have HT4:=Hd (HT3.o.trans hT4);clear hM4 hT4 x0 x1 x2 x3 x4 x5;go_wp2_with fail;go_at_call 84;refine(Adj M fl b' v y _ o4 HM4.o HV.o.1 HV.o.2).mono ?_;rintro e w5 ⟨A,m,c,rfl,hO,o5,hT5⟩;have HO:=Hd hO;have HT5:=Hd (HT4.o.trans hT5);have HSZ:=Hd (show w.heap.size≤w4.heap.size from Nat.le_trans HB2.o.size HT4.o.size);clear hO hT5;go_wp2_with fail;go_ret2;exact⟨A,m,c,rfl,by rw [←HD.o];exact HO.o.rebase HSZ.o,Ad HB2.o (HT5.o.below fun _ _=>Bi)⟩
theorem Aig(fl:Int){x:Nv}{t:Tr}{p:Nat→Prop}{w:World}{er:Int}(h:Bk w p x t)(hp:∀k,p k→k<w.heap.size)(hc:Ou t)(he:(Fa F6 0 t 0).1=er)(hne:er≠0):
  Calls Tryz.prog 42 #[.agg #[Aa Ab x.k,Aa Ab x.n,Aa Ac (x.u:Int),.string ⟨x.s.toArray⟩,.slice x.A x.an x.ac,.slice x.B x.bn x.bc],Aa Ab fl,Aa Ab 1048576] w fun e w'=>e= .returned (.tuple #[.slice none 0 0,Aa Ab er])∧Below w.heap.size w w':=by
 have hb:=(Below.refl w.heap.size w).alloc (Ath _) (.cells #[Aa Ab x.k,Aa Ab x.n,Aa Ac (x.u:Int),.string ⟨x.s.toArray⟩,.slice x.A x.an x.ac,.slice x.B x.bn x.bc] 26);have HB:=Hd hb;have HX:=Hd (Af.new w 26 #[Aa Ab x.k,Aa Ab x.n,Aa Ac (x.u:Int),.string ⟨x.s.toArray⟩,.slice x.A x.an x.ac,.slice x.B x.bn x.bc]);have HS:=Hd (Oo (h.pure hb) (fun k hk=>Atr (hp k hk) hb.size) hc he hne);have hbn:(er != 0)=true:=by simpa using hne
 clear h hp hc he hne hb;go_enter Tryz.func42,Tryz.ntmps42;go_wp2_with fail;go_at_call 37;refine HS.o.mono ?_;rintro e w1 ⟨rfl,hb1⟩;have HB1:=Hd (Ad HB.o hb1);clear hb1;go_wp2_with fail;go_ret2;exact⟨rfl,HB1.o.alloc HB1.o.size _⟩
theorem Aic(fl:Int){x:Nv}{t:Tr}{p:Nat→Prop}{w:World}(h:Bk w p x t)(hp:∀k,p k→k<w.heap.size)(hca:Li (Aq t))(hc:t.cost≤65000)(he:(Fa F6 0 t 0).1=0):
  Calls Tryz.prog 12 #[.agg #[Aa Ab x.k,Aa Ab x.n,Aa Ac (x.u:Int),.string ⟨x.s.toArray⟩,.slice x.A x.an x.ac,.slice x.B x.bn x.bc],Aa Ab fl] w (Zg w (E0 (bits fl) (Aq t))):=by
 have hb:=(Below.refl w.heap.size w).alloc (Ath _) (.cells #[Aa Ab x.k,Aa Ab x.n,Aa Ac (x.u:Int),.string ⟨x.s.toArray⟩,.slice x.A x.an x.ac,.slice x.B x.bn x.bc] 26);have HB:=Hd hb;have HH:=Hd (Af0 fl (h.pure hb) (fun k hk=>Atr (hp k hk) hb.size) hca hc he);clear h hp hca hc he hb;go_enter Tryz.func12,Tryz.ntmps12;go_wp2_with fail;go_at_call 42;refine HH.o.mono ?_;intro e w1 hD;obtain⟨A,m,c,rfl,hO,hb⟩:=hD;have HO:=Hd hO;have HB1:=Hd hb;clear hO hb;go_wp2_with fail;go_ret2;exact Aiy HB.o ⟨A,m,c,rfl,HO.o,HB1.o⟩
theorem Zr(fl:Int){x:Nv}{t:Tr}{p:Nat→Prop}{w:World}(h:Bk w p x t)(hp:∀k,p k→k<w.heap.size)(hN:Fb t)(hc:t.cost≤65000)(he:(Fa F6 0 t 0).1=0):
  Calls Tryz.prog 12 #[.agg #[Aa Ab x.k,Aa Ab x.n,Aa Ac (x.u:Int),.string ⟨x.s.toArray⟩,.slice x.A x.an x.ac,.slice x.B x.bn x.bc],Aa Ab fl] w (Zg w (E0 (bits fl) (Aq t))):=
 Aic fl h hp (Aid (Ara (H0 Kg t 0 0 he) hN)) hc he
theorem Al0(fl:Int){x:Nv}{t:Tr}{p:Nat→Prop}{w:World}{er:Int}(h:Bk w p x t)(hp:∀k,p k→k<w.heap.size)(hc:Ou t)(he:(Fa F6 0 t 0).1=er)(hne:er≠0):
  Calls Tryz.prog 12 #[.agg #[Aa Ab x.k,Aa Ab x.n,Aa Ac (x.u:Int),.string ⟨x.s.toArray⟩,.slice x.A x.an x.ac,.slice x.B x.bn x.bc],Aa Ab fl] w fun e w'=>e= .returned (.tuple #[.slice none 0 0,Aa Ab er])∧Below w.heap.size w w':=by
 have hb:=(Below.refl w.heap.size w).alloc (Ath _) (.cells #[Aa Ab x.k,Aa Ab x.n,Aa Ac (x.u:Int),.string ⟨x.s.toArray⟩,.slice x.A x.an x.ac,.slice x.B x.bn x.bc] 26);have HB:=Hd hb;have HH:=Hd (Aig fl (h.pure hb) (fun k hk=>Atr (hp k hk) hb.size) hc he hne);clear h hp hc he hne hb;go_enter Tryz.func12,Tryz.ntmps12;go_wp2_with fail;go_at_call 42;refine HH.o.mono ?_;rintro e w1 ⟨rfl,hb⟩;have HB1:=Hd (Ad HB.o hb);clear hb;go_wp2_with fail;go_ret2;exact⟨rfl,HB1.o⟩
end Go.Proofs.YtgbjodnegkbfoaaGreat
