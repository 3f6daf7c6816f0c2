/- Parts of the proof. -/
import Derived.Test.YtgbjodnegkbfoaaGreatQa13
import Derived.Deep.RegionLaw
import Derived.Laws.CopyOwn
set_option maxHeartbeats 4000000
set_option maxRecDepth 100000
open Go.Value renaming int→Aa
open Go.IntKind renaming i64→Ab,u64→Ac
open Nat renaming le_refl→Ath,zero_le→Atl
open List renaming getElem?_eq_getElem→Ati,length_append→Atj,append_assoc→Ato,take_of_length_le→Att
namespace Go.Proofs.YtgbjodnegkbfoaaGreat
open Go.RowKit Go.Acc
structure Nf(b b6 b4 n:Nat)(A:Option Addr)(vs:List Bv)(kv:Bv)(l:List UInt8)(w:World)(o:Nat→Nat):Prop where
 m:Co w o b l
 r:Af w b6 210 #[Aa Ab 0,Aa Ab 0,Aa Ac 0]
 or_:o b6=0
 k:Af w b4 210 #[Aa Ab (kv.t:Int),Aa Ab (kv.w:Int),Aa Ac (kv.n:Int)]
 ok_:o b4=0
 v:D9 w A n (vs.map vv)
 ov:∀ad,A=some ad→ad.block<w.heap.size∧o ad.block≠1
section
variable {b b6 b4 n:Nat} {A:Option Addr} {vs:List Bv} {kv:Bv} {l l':List UInt8} {w w':World} {o o':Nat→Nat}
theorem Nf.to_(h:Nf b b6 b4 n A vs kv l w o)(ht:To (fun i=>i=1) w o w' o')(hb:Co w' o' b l'):Nf b b6 b4 n A vs kv l' w' o':=
 ⟨hb,h.r.to_ ht (by rw [h.or_];omega),by rw [ht.ow _ h.r.lt];exact h.or_,h.k.to_ ht (by rw [h.ok_];omega),by rw [ht.ow _ h.k.lt];exact h.ok_,
  h.v.fr ht.fr (fun ad e=>(h.ov ad e).2),fun ad e=>⟨Nat.lt_of_lt_of_le (h.ov ad e).1 ht.size,by rw [ht.ow _ (h.ov ad e).1];exact(h.ov ad e).2⟩⟩
theorem Nf.pure(h:Nf b b6 b4 n A vs kv l w o)(hb:Below w.heap.size w w'):Nf b b6 b4 n A vs kv l w' o:=h.to_ (To.pure _ hb o) (h.m.pure hb)
theorem Nf.fresh(h:Nf b b6 b4 n A vs kv l w o)(hb:Below w.heap.size w w'):Nf b b6 b4 n A vs kv l w' (Ak o w.heap.size 0):=h.to_ (To.fresh _ hb o 0) (h.m.fresh hb 0)
theorem Nf.kc(h:Nf b b6 b4 n A vs kv l w o):w.cell? ⟨b4,0,none⟩=some (Aa Ab (kv.t:Int))∧w.cell? ⟨b4,1,none⟩=some (Aa Ab (kv.w:Int))∧w.cell? ⟨b4,2,none⟩=some (Aa Ac (kv.n:Int)):=⟨h.k.cell 0,h.k.cell 1,h.k.cell 2⟩
end
theorem Ash(kv:Bv)(vs:List Bv)(a n c:Nat)(A:Option Addr)(w:World)(r:Nat)(hv:D9 w A n (vs.map vv))(ha:a≤1048576)(hn:n≤1000000)(hr:B3 a 3 (some kv) vs=r):
  Calls Tryz.prog 379 #[Aa Ab (a:Int),Aa Ab 3,.agg #[Aa Ab (kv.t:Int),Aa Ab (kv.w:Int),Aa Ac (kv.n:Int)],.slice A n c] w fun e w'=>e= .returned (Aa Ab (r:Int))∧Below w.heap.size w w':=by
 have h:=S3 kv vs a 3 n c A w hv ha hn (.inr (.inr rfl));rw [show Jj 3 kv=some kv from rfl,hr] at h;exact h
theorem Ag1{vs:List Bv}{kv:Bv}{l:List UInt8}{y:Nat}(hok:D1 vs l)(hkf:Dx l.length kv)(hk:inl kv.t=false)(hy:B3 l.length 3 (some kv) vs=y):
  Av (y:Int)=true∧Du l.length y 3 vs=true∧bWidth vs.length≤y∧kv.n≤(Ah y l).length∧(Ah y l).length-kv.n<2^(8*y):=by
 have h1:=Jv (a:=l.length) (ahead:=3) (k:=some kv) (vs:=vs) (fun x h=>by injection h with h;subst h;exact hkf) hok.fit;obtain⟨h2,h4,h3⟩:=Nj (a:=l.length) (ahead:=3) (k:=some kv) (vs:=vs) (fun x h=>by injection h with h;subst h;exact hkf) hok.fit;rw [hy] at h1 h2 h3 h4;obtain⟨q1,q2⟩:=Mr hk (h4 kv rfl);obtain⟨a1,a2,a3⟩:=Hf h1 l;have hy8:y≤8:=by have:=C8 h1;omega
 have h8:=C5 l hy8;have hlen:=hok.len;rw [Nat.zero_mul,Nat.add_zero,←a1] at q2;exact⟨h1,h3,h2.resolve_left (by omega),by omega,E4 h1 (by omega) q2⟩
theorem X5(b n c:Nat)(A:Option Addr)(vs:List Bv)(kv:Bv)(l:List UInt8)(w:World)(o:Nat→Nat)(h:Co w o b l)(hv:D9 w A n (vs.map vv))(ho:∀ad,A=some ad→ad.block<w.heap.size∧o ad.block≠1)(hok:D1 vs l)
  (hkt:kv.t=14) (hkw:Av (kv.w:Int)=true) (hkf:Dx l.length kv):
  Calls Tryz.prog 331 #[.pointer (some ⟨b,0,none⟩),.agg #[Aa Ab (kv.t:Int),Aa Ab (kv.w:Int),Aa Ac (kv.n:Int)],.slice A n c] w (Rz w o b (Ds kv vs l)):=by
 have hki:inl kv.t=false:=by rw [hkt];decide
 obtain⟨y,hyy⟩:∃y,B3 l.length 3 (some kv) vs=y:=⟨_,rfl⟩;obtain⟨hyw,hyf,hyb,hk1,hk2⟩:=Ag1 hok hkf hki hyy;have HYY:=Hd hyy;have HYW:=Hd hyw;have HYF:=Hd hyf;have HYB:=Hd hyb;have HK12:=Hd (And.intro hk1 hk2);have HKI:=Hd hki;have HKT:=Hd hkt;have HKW:=Hd hkw;have hy8:1≤y∧y≤8:=by have:=C8 hyw;omega
 have hyne:((y:Int)==0)=false:=by rw [beq_eq_false_iff_ne];omega
 have HLEN:=Hd hok.len;obtain⟨a,ha⟩:∃a,l.length=a:=⟨_,rfl⟩;have HA:=Hd ha;have ha2:a≤1048576:=by have:=hok.len;omega
 have HA2:=Hd ha2;have HOK:=Hd hok;have HVL:=Hd (Hb hv);have hn1:n≤1000000:=by
  have h1:=hok.len;have h2:=Hb hv;omega
 have hB0:=Ba w (.cells #[Aa Ab (kv.t:Int),Aa Ab (kv.w:Int),Aa Ac (kv.n:Int)] 210) (.cells #[Aa Ab 0,Aa Ab 0,Aa Ac 0] 210);have HS0:=Hd (show Nf b (w.heap.size+1) w.heap.size n A vs kv l ((w.alloc (.cells #[Aa Ab (kv.t:Int),Aa Ab (kv.w:Int),Aa Ac (kv.n:Int)] 210)).alloc (.cells #[Aa Ab 0,Aa Ab 0,Aa Ac 0] 210)) (Ak o w.heap.size 0) from
  ⟨h.fresh hB0 0,B5 w _ _ _,Am (by omega),(Af.new w 210 #[Aa Ab (kv.t:Int),Aa Ab (kv.w:Int),Aa Ac (kv.n:Int)]).alloc _,Am (Ath _),hv.pure hB0,fun ad e=>by
   have h1:=ho ad e;exact⟨by have:=hB0.size;omega,by rw [Au h1.1];exact h1.2⟩⟩)
 have HT1:=Hd (To.fresh (fun i=>i=1) hB0 o 0);clear hyy hyw hyf hyb ha h hv ho hok hB0 hki hkt hkw hkf hk1 hk2;go_enter Tryz.func331,Tryz.ntmps331;go_wp2_with fail;go_at_call 262;have HB6:=Hd (show w.heap.size≤w.heap.size+1 by omega);generalize (w.alloc (.cells #[Aa Ab (kv.t:Int),Aa Ab (kv.w:Int),Aa Ac (kv.n:Int)] 210)).alloc (.cells #[Aa Ab 0,Aa Ab 0,Aa Ac 0] 210)=w1 at HS0 HT1⊢;generalize Ak o w.heap.size 0=o1 at HS0 HT1;generalize w.heap.size+1=b6 at HS0 HB6⊢;generalize hb4:w.heap.size=b4 at HS0⊢;have HB4:=Hd (show w.heap.size≤b4 by omega);clear hb4;refine(F8 HS0.o.m).mono ?_;rintro e w' ⟨rfl,rfl⟩;obtain⟨k0,k1,k2⟩:=HS0.o.kc;go_wp2_with fail;go_at_call 385;refine(Adr kv n c A vs _ HS0.o.v hn1 HKT.o HKW.o (fun v hm=>⟨HOK.o.legal v hm,HOK.o.own v hm⟩)).mono ?_;rintro e w2 ⟨rfl,hb⟩;replace HS0:=Hd (HS0.o.pure hb);replace HT1:=Hd (HT1.o.trans (To.pure _ hb o1));clear hb k0 k1 k2;obtain⟨k0,k1,k2⟩:=HS0.o.kc;go_wp2_with fail;go_region_held3 (fun w'=>w'.cell? ⟨b4,0,none⟩=some (Aa Ab (kv.t:Int))∧w'.cell? ⟨b4,1,none⟩=some (Aa Ab (kv.w:Int))∧w'.cell? ⟨b4,2,none⟩=some (Aa Ac (kv.n:Int))) (first|with_reducible exact⟨k0,k1,k2⟩|with_reducible exact⟨Ae k0,Ae k1,Ae k2⟩|with_reducible exact⟨t0,t1,t2⟩) (first|(go_at_call 159;(with_reducible refine(Dg a (HS0.o.pure (Below.refl _ _).drew).m HA.o).mono ?_);rintro e w' ⟨rfl,rfl⟩)|(go_at_call 379;(with_reducible refine(Ash kv vs a n c A _ y (HS0.o.pure (Below.refl _ _).drew).v HA2.o hn1 (by rw [←HA.o];exact HYY.o)).mono ?_);rintro e w3 ⟨rfl,hb⟩;have hbd:=B6 (Below.refl _ _).drew hb;have HS1:=Hd (HS0.o.pure hbd);have t0:=Ag hbd k0;have t1:=Ag hbd k1;have t2:=Ag hbd k2;have HT2:=Hd (HT1.o.trans (To.pure _ hbd o1));clear hb hbd));clear k0 k1 k2;replace HT1:=HT2;clear HT2 HS0;have HAL:=Hd (C5 l hy8.2);have hAW:=(Below.refl w3.heap.size w3).alloc (Ath _) (.cells #[.pointer (some ⟨b,0,none⟩),Aa Ab (y:Int)] 403);have HS2:=Hd (HS1.o.fresh hAW);have HW2:=Hd (Af.new w3 403 #[.pointer (some ⟨b,0,none⟩),Aa Ab (y:Int)]);have HO2:=Hd (show Ak o1 w3.heap.size 0 w3.heap.size=0 from Am (Ath _));replace HT1:=Hd (HT1.o.trans (To.fresh _ hAW o1 0));clear hAW HS1 t0 t1 t2;go_wp2_with fail;go_at_call 160;generalize w3.alloc (.cells #[.pointer (some ⟨b,0,none⟩),Aa Ab (y:Int)] 403)=w4 at HS2 HW2 HT1⊢;generalize Ak o1 w3.heap.size 0=o2 at HS2 HO2 HT1;generalize w3.heap.size=g at HW2 HO2⊢;refine(G0 b y l _ o2 HS2.o.m HYW.o (by have:=HLEN.o;omega)).mono ?_;rintro e w5 ⟨rfl,o5,hB,hT⟩;have hgl:=HW2.o.lt;replace HW2:=Hd (HW2.o.to_ hT (by rw [HO2.o];omega));replace HO2:=Hd (show o5 g=0 by rw [hT.ow _ hgl];exact HO2.o);replace HS2:=Hd (HS2.o.to_ hT hB);replace HT1:=Hd (HT1.o.trans hT);clear hB hT hgl;obtain⟨k0,k1,k2⟩:=HS2.o.kc;obtain ⟨x0,x1⟩:=HW2.o.c2;go_wp2_with fail;go_at_call 386;refine(Qv b y kv (Ah y l) _ o5 HS2.o.m HYW.o (fun _=>HK12.o) (by have h1:=HLEN.o;have h2:=HAL.o;omega)).mono ?_;rintro e w6 ⟨rfl,o6,hB,hT⟩;have hgl:=HW2.o.lt;replace HW2:=Hd (HW2.o.to_ hT (by rw [HO2.o];omega));replace HO2:=Hd (show o6 g=0 by rw [hT.ow _ hgl];exact HO2.o);replace HS2:=Hd (HS2.o.to_ hT hB);replace HT1:=Hd (HT1.o.trans hT);clear hB hT hgl;clear k0 k1 k2 x0 x1;obtain⟨k0,k1,k2⟩:=HS2.o.kc;obtain ⟨x0,x1⟩:=HW2.o.c2;have hkw64:IntKind.u64.wrap (kv.w:Int)=(kv.w:Int):=B8 _ (by have:=C8 HKW.o;omega);have HKV:=Hd (show D4 y kv.w=true from decide_eq_true (.inr (by
  have h1:=C8 HKW.o;have h2:2^(8*1)≤2^(8*y):=Nat.pow_le_pow_right (by omega) (by omega);omega)))
 have HKB:=Hd (show(kv.w:Int)<18446744073709551616 by have:=C8 HKW.o;omega);have HKE:=Hd (show B9 y (Ah y l).length kv=(Ah y l).length-kv.n by unfold B9;rw [if_neg (by rw [HKI.o];decide)]);rw [HKE.o] at HS2;go_wp2_with fail;go_at_call 163;refine(Ef b y kv.w _ _ o6 HS2.o.m HYW.o HKV.o HKB.o (by have h1:=HLEN.o;have h2:=HAL.o;rw [Atj,Aj];omega)).mono ?_;rintro e w7 ⟨rfl,o7,hB,hT⟩;have hgl:=HW2.o.lt;replace HW2:=Hd (HW2.o.to_ hT (by rw [HO2.o];omega));replace HO2:=Hd (show o7 g=0 by rw [hT.ow _ hgl];exact HO2.o);replace HS2:=Hd (HS2.o.to_ hT hB);replace HT1:=Hd (HT1.o.trans hT);clear hB hT hgl;clear k0 k1 k2 x0 x1 hkw64;obtain ⟨x0,x1⟩:=HW2.o.c2;have hnw:IntKind.u64.wrap (n:Int)=(n:Int):=B8 _ (by omega);have HNV:=Hd (show D4 y n=true from decide_eq_true (.inr (by
  have h1:=HYB.o;rw [HVL.o] at h1;exact E4 HYW.o (by omega) h1)))
 go_wp2_with fail;go_at_call 163;refine(Ef b y n _ _ o7 HS2.o.m HYW.o HNV.o (by omega) (by have h1:=HLEN.o;have h2:=HAL.o;rw [Atj,Atj,Aj,Aj];omega)).mono ?_;rintro e w8 ⟨rfl,o8,hB,hT⟩;have hgl:=HW2.o.lt;replace HW2:=Hd (HW2.o.to_ hT (by rw [HO2.o];omega));replace HO2:=Hd (show o8 g=0 by rw [hT.ow _ hgl];exact HO2.o);replace HS2:=Hd (HS2.o.to_ hT hB);replace HT1:=Hd (HT1.o.trans hT);clear hB hT hgl;clear x0 x1 hnw;obtain⟨cc,hcc⟩:∃cc,Ah y l++Ai y ((Ah y l).length-kv.n)++Ai y kv.w++Ai y n=cc:=⟨_,rfl⟩;have HCC:=Hd hcc;have HCL:=Hd (show cc.length=(Ah y l).length+3*y by rw [←hcc];simp only [Atj,Aj];omega);rw [hcc] at HS2;obtain⟨q,hq⟩:∃q,cc.length=q:=⟨_,rfl⟩;have HQ:=Hd hq;have HQ2:=Hd (show q+9*n≤1048576 by
  have h1:=HLEN.o;have h2:=HAL.o;have h3:=HCL.o;have h4:=HVL.o;omega)
 have HEF:=Hd (Ni (k:=3) (by omega) HYW.o HYF.o HLEN.o (c:=cc) HCL.o);have x0:w8.cell? ⟨g,0,none⟩=some (.pointer (some ⟨b,0,none⟩)):=HW2.o.cell 0;clear hcc hq;go_wp2_with fail;go_at_call 159;refine(Dg q HS2.o.m HQ.o).mono ?_;rintro e w' ⟨rfl,rfl⟩;clear x0;go_wp2_with fail;go_loopw [68] (fun u wr=>∃k:Nat,k≤n∧u= Aa Ab k∧∃o',Nf b b6 b4 n A vs kv (Bn y cc (vs.take k)) wr o'∧Af wr g 403 #[.pointer (some ⟨b,0,none⟩),Aa Ab (y:Int)]∧o' g=0∧To (fun i=>i=1) w o wr o') (fun u _=>n-(intOf u).toNat)
 case atStart=>exact⟨0,Atl _,rfl,o8,by rw [List.take_zero];exact HS2.o,HW2.o,HO2.o,HT1.o⟩
 case round=>
  obtain⟨k,hk,rfl,o',hs,hw,hog,ht⟩:=hrel;have HSR:=Hd hs;have HWR:=Hd hw;have HOR:=Hd hog;have HTR:=Hd ht;clear hs hw hog ht HS2 HW2 HO2 HT1;by_cases hlt:k<n
  ·obtain⟨g1,off,v,hA,hvk,h0,h1,h2⟩:=Gt HSR.o.v hlt;subst hA;have HT:=Hd (N1 y vs k v cc hvk);have HEL:=Hd (show(Bn y cc (vs.take k)).length=cc.length+k*y by rw [Lg,List.length_take,HVL.o,Nat.min_eq_left (by omega)]);have HEV:=Hd (show inl v.t=false→v.n≤(Bn y cc (vs.take k)).length∧(Bn y cc (vs.take k)).length-v.n<2^(8*y) by rw [HEL.o];exact HEF.o k v hvk);have HELB:=Hd (show(Bn y cc (vs.take k)).length+y≤1048576 by
    rw [HEL.o,HQ.o];have h3:=HQ2.o;have h4:(k+1)*y≤n*8:=Nat.mul_le_mul (by omega) hy8.2;rw [Nat.succ_mul] at h4;omega)
   have hk0:(0:Int)≤(k:Int):=by omega
   have hkn:(k:Int)<(n:Int):=by omega
   have hAL:=(Below.refl wr.heap.size wr).alloc (Ath _) (.cells #[Aa Ab (v.t:Int),Aa Ab (v.w:Int),Aa Ac (v.n:Int)] 210);have HS2:=Hd (HSR.o.fresh hAL);have HW2:=Hd (HWR.o.alloc (.cells #[Aa Ab (v.t:Int),Aa Ab (v.w:Int),Aa Ac (v.n:Int)] 210));have HO2:=Hd (show Ak o' wr.heap.size 0 g=0 by rw [Au HWR.o.lt];exact HOR.o);have HT1:=Hd (HTR.o.trans (To.fresh _ hAL o' 0));obtain ⟨x0,x1⟩:=HW2.o.c2;clear hvk hAL;go_wp2_with fail;go_at_call 386;refine(Qv b y v (Bn y cc (vs.take k)) _ _ HS2.o.m HYW.o HEV.o HELB.o).mono ?_;rintro e w9 ⟨rfl,o9,hB,hT⟩;have hgl:=HW2.o.lt;replace HW2:=Hd (HW2.o.to_ hT (by rw [HO2.o];omega));replace HO2:=Hd (show o9 g=0 by rw [hT.ow _ hgl];exact HO2.o);replace HS2:=Hd (HS2.o.to_ hT hB);replace HT1:=Hd (HT1.o.trans hT);clear hB hT hgl;rw [HEL.o,←HT.o] at HS2;clear x0 x1 h0 h1 h2;go_wp2_with fail;go_roundw
   case rel=>exact⟨k+1,by omega,by go_num,o9,HS2.o,HW2.o,HO2.o,HT1.o⟩
   case measure=>simp [intOf];omega
  ·have hd1:decide ((k:Int)<(n:Int))=false:=decide_eq_false (by omega);have hd2:decide (k<n)=false:=decide_eq_false (by omega);have HE2:=Hd (show vs.take k=vs from Att (by have:=HVL.o;omega));rw [HE2.o] at HSR;go_wp2_with fail;go_loopw [78] (fun u wr=>∃j:Nat,j≤n∧u= Aa Ab j∧∃o',Nf b b6 b4 n A vs kv (Bn y cc vs++(vs.take j).map (C3 y)) wr o'∧Af wr g 403 #[.pointer (some ⟨b,0,none⟩),Aa Ab (y:Int)]∧o' g=0∧To (fun i=>i=1) w o wr o') (fun u _=>n-(intOf u).toNat)
   case atStart=>exact⟨0,Atl _,rfl,o',by rw [List.take_zero,List.map_nil,List.append_nil];exact HSR.o,HWR.o,HOR.o,HTR.o⟩
   case round=>
    clear HSR HWR HOR HTR hd1 hd2 hlt;obtain⟨j,hj,rfl,o5,hs,hw,hog,ht⟩:=hrel;have HSR:=Hd hs;have HWR:=Hd hw;have HOR:=Hd hog;have HTR:=Hd ht;clear hs hw hog ht;by_cases hjt:j<n
    ·obtain⟨g1,off,v,hA,hvk,h0,h1,h2⟩:=Gt HSR.o.v hjt;subst hA;have HTK:=Hd (show Bn y cc vs++(vs.take (j+1)).map (C3 y)=(Bn y cc vs++(vs.take j).map (C3 y))++ [C3 y v] by
      obtain⟨q1,q2⟩:=List.getElem?_eq_some_iff.1 hvk;rw [List.take_succ_eq_append_getElem q1,q2,List.map_append,←Ato];rfl)
     have HVM:=Hd (List.mem_of_getElem? hvk);have HTB:=Hd (show(Bn y cc vs++(vs.take j).map (C3 y)).length+1≤1048576 by
      rw [Atj,List.length_map,List.length_take,Lg,HVL.o,HQ.o];have h3:=HQ2.o;have h4:n*y≤n*8:=Nat.mul_le_mul_left n hy8.2;omega)
     have hk0:(0:Int)≤(j:Int):=by omega
     have hkn:(j:Int)<(n:Int):=by omega
     have hAL:=(Below.refl wr.heap.size wr).alloc (Ath _) (.cells #[Aa Ab (v.t:Int),Aa Ab (v.w:Int),Aa Ac (v.n:Int)] 210);have HS2:=Hd (HSR.o.fresh hAL);have HW2:=Hd (HWR.o.alloc (.cells #[Aa Ab (v.t:Int),Aa Ab (v.w:Int),Aa Ac (v.n:Int)] 210));have HO2:=Hd (show Ak o5 wr.heap.size 0 g=0 by rw [Au HWR.o.lt];exact HOR.o);have HT1:=Hd (HTR.o.trans (To.fresh _ hAL o5 0));obtain ⟨x0,x1⟩:=HW2.o.c2;clear hvk hAL;go_wp2_with fail;go_at_call 387;refine(Akd b y v _ _ _ HS2.o.m HYW.o (HOK.o.legal v HVM.o) (HOK.o.own v HVM.o) HTB.o).mono ?_;rintro e w9 ⟨rfl,o9,hB,hT⟩;have hgl:=HW2.o.lt;replace HW2:=Hd (HW2.o.to_ hT (by rw [HO2.o];omega));replace HO2:=Hd (show o9 g=0 by rw [hT.ow _ hgl];exact HO2.o);replace HS2:=Hd (HS2.o.to_ hT hB);replace HT1:=Hd (HT1.o.trans hT);clear hB hT hgl;rw [←HTK.o] at HS2;clear x0 x1 h0 h1 h2;go_wp2_with fail;go_roundw
     case rel=>exact⟨j+1,by omega,by go_num,o9,HS2.o,HW2.o,HO2.o,HT1.o⟩
     case measure=>simp [intOf];omega
    ·have hd1:decide ((j:Int)<(n:Int))=false:=decide_eq_false (by omega);have hd2:decide (j<n)=false:=decide_eq_false (by omega);have HE3:=Hd (show vs.take j=vs from Att (by have:=HVL.o;omega));rw [HE3.o] at HSR;have HX:=Hd (show Ds kv vs l=(Bn y cc vs++vs.map (C3 y),⟨9,y,q⟩) by
      unfold Ds;simp only [HYY.o,HVL.o,HCC.o,HQ.o])
     have hqw:IntKind.u64.wrap (q:Int)=(q:Int):=B8 _ (by have:=HQ2.o;omega);have x0:wr.cell? ⟨g,0,none⟩=some (.pointer (some ⟨b,0,none⟩)):=HWR.o.cell 0;have r0:wr.cell? ⟨b6,0,none⟩=some (Aa Ab 0):=HSR.o.r.cell 0;have r1:wr.cell? ⟨b6,1,none⟩=some (Aa Ab 0):=HSR.o.r.cell 1;have r2:wr.cell? ⟨b6,2,none⟩=some (Aa Ac 0):=HSR.o.r.cell 2;have f0:=HSR.o.r.frozen 0;have f1:=HSR.o.r.frozen 1;have f2:=HSR.o.r.frozen 2;go_wp2_with (go_at_call 262;refine(F8 HSR.o.m).mono ?_;rintro e w' ⟨rfl,rfl⟩);have hRF:=((HSR.o.r.set_ 0 (Aa Ab 9)).set_ 1 (Aa Ab (y:Int))).set_ 2 (Aa Ac (q:Int));have hMF:=Eu (p:=⟨b6,2,none⟩) (Eu (p:=⟨b6,1,none⟩) (Eu (p:=⟨b6,0,none⟩) HSR.o.m HSR.o.or_ (Aa Ab 9)) HSR.o.or_ (Aa Ab (y:Int))) HSR.o.or_ (Aa Ac (q:Int));have hTF:=Fo (p:=⟨b6,2,none⟩) (Fo (p:=⟨b6,1,none⟩) (Fo (p:=⟨b6,0,none⟩) HTR.o HB6.o (Aa Ab 9)) HB6.o (Aa Ab (y:Int))) HB6.o (Aa Ac (q:Int));clear r0 r1 r2 f0 f1 f2 x0;generalize ((wr.setCell ⟨b6,0,none⟩ (Aa Ab 9)).setCell ⟨b6,1,none⟩ (Aa Ab (y:Int))).setCell ⟨b6,2,none⟩ (Aa Ac (q:Int))=wF at hRF hMF hTF⊢;obtain ⟨r0,r1,r2⟩:=hRF.c3;refine bodyPost_ret (v:= .tuple #[.agg #[Aa Ab 9,Aa Ab (y:Int),Aa Ac (q:Int)],Aa Ab 0]) (by simp [results,Tryz.results331,go_sem,r0,r1,r2]) rfl ?_;rw [HX.o];exact⟨rfl,o5,hMF,hTF⟩
theorem Va(b n c:Nat)(A:Option Addr)(vs:List Bv)(l:List UInt8)(w:World)(o:Nat→Nat)(h:Co w o b l)(hv:D9 w A n (vs.map vv))(ho:∀ad,A=some ad→ad.block<w.heap.size∧o ad.block≠1)(hok:D1 vs l)(hel:∀v∈vs,v.t=4):
  Calls Tryz.prog 329 #[.pointer (some ⟨b,0,none⟩),.slice A n c] w (Rz w o b (Bc 14 true false vs l)):=by
 have hB0:=(Below.refl w.heap.size w).alloc (Ath _) (.cells #[Aa Ab 0,Aa Ab 0,Aa Ac 0] 210);have HP:=Hd (Afh b 4 n c A vs l _ _ (h.fresh hB0 0) (hv.pure hB0) (fun ad e=>⟨by have h1:=(ho ad e).1;have h2:=hB0.size;omega,by rw [Au (ho ad e).1];exact(ho ad e).2⟩) hok (.inl ⟨rfl,.inr (.inr (.inl rfl))⟩) hel);have HR0:=Hd (Af.new w 210 #[Aa Ab 0,Aa Ab 0,Aa Ac 0]);have HT0:=Hd (To.fresh (fun i=>i=1) hB0 o 0);have HO0:=Hd (show Ak o w.heap.size 0 w.heap.size=0 from Am (Ath _));obtain⟨x,hx⟩:∃x,Bc (vecTy 4 0) true false vs l=x:=⟨_,rfl⟩;have HXX:=Hd (show Bc 14 true false vs l=x from hx);rw [hx] at HP;obtain⟨l',t',y',q'⟩:=x;clear hB0 h hv ho hok hel hx;go_enter Tryz.func329,Tryz.ntmps329;go_wp2_with fail;go_at_call 319;generalize w.alloc (.cells #[Aa Ab 0,Aa Ab 0,Aa Ac 0] 210)=w1 at HP HR0 HT0⊢;generalize Ak o w.heap.size 0=o1 at HP HT0 HO0;have HBG:=Hd (show w.heap.size≤w.heap.size from Ath _);refine HP.o.mono ?_;rintro e w2 ⟨rfl,o2,hB,hT⟩;have HB2:=Hd hB;have HR2:=Hd (HR0.o.to_ hT (by rw [HO0.o];omega));have HO2:=Hd (show o2 w.heap.size=0 by rw [hT.ow _ HR0.o.lt];exact HO0.o);have HT2:=Hd (HT0.o.trans hT);obtain ⟨r0,r1,r2⟩:=HR2.o.c3;have f0:=HR2.o.frozen 0;have f1:=HR2.o.frozen 1;have f2:=HR2.o.frozen 2;clear hB hT;go_wp2_with fail;have hRF:=((HR2.o.set_ 0 (Aa Ab (t':Int))).set_ 1 (Aa Ab (y':Int))).set_ 2 (Aa Ac (q':Int));have hMF:=Eu (p:=⟨w.heap.size,2,none⟩) (Eu (p:=⟨w.heap.size,1,none⟩) (Eu (p:=⟨w.heap.size,0,none⟩) HB2.o HO2.o (Aa Ab (t':Int))) HO2.o (Aa Ab (y':Int))) HO2.o (Aa Ac (q':Int));have hTF:=Fo (p:=⟨w.heap.size,2,none⟩) (Fo (p:=⟨w.heap.size,1,none⟩) (Fo (p:=⟨w.heap.size,0,none⟩) HT2.o HBG.o (Aa Ab (t':Int))) HBG.o (Aa Ab (y':Int))) HBG.o (Aa Ac (q':Int));clear r0 r1 r2 f0 f1 f2;generalize ((w2.setCell ⟨w.heap.size,0,none⟩ (Aa Ab (t':Int))).setCell ⟨w.heap.size,1,none⟩ (Aa Ab (y':Int))).setCell ⟨w.heap.size,2,none⟩ (Aa Ac (q':Int))=wF at hRF hMF hTF⊢;obtain ⟨r0,r1,r2⟩:=hRF.c3;refine bodyPost_ret (v:= .tuple #[.agg #[Aa Ab (t':Int),Aa Ab (y':Int),Aa Ac (q':Int)],Aa Ab 0]) (by simp [results,Tryz.results329,go_sem,r0,r1,r2]) rfl ?_;rw [HXX.o];exact⟨rfl,o2,hMF,hTF⟩
theorem Uz(s k:List UInt8)(r:Bool)(w:World)(hr:Op.bytesLess s k=r):Calls Tryz.prog 361 #[.string ⟨s.toArray⟩,.string ⟨k.toArray⟩] w fun e w'=>e= .returned (.bool r)∧w=w':=by
 have hr':Op.bytesLess (⟨s.toArray⟩:ByteArray).data.toList (⟨k.toArray⟩:ByteArray).data.toList=r:=hr;clear hr;go_enter Tryz.func361,Tryz.ntmps361;go_wp2;go_ret;exact⟨by simp,rfl⟩
theorem Te:∀(x y z:List UInt8),Op.bytesLess x y=true→Op.bytesLess y z=true→Op.bytesLess x z=true
 | [],[],_,h,_=>by cases h
 | [],_::_,[],_,h=>by cases h
 | [],_::_,_::_,_,_=>rfl
 |_::_,[],_,h,_=>by cases h
 |_::_,_::_,[],_,h=>by cases h
 |a::x,b::y,c::z,h1,h2=>by
  have g1:(decide (a<b)||(a==b&&Op.bytesLess x y))=true:=h1;have g2:(decide (b<c)||(b==c&&Op.bytesLess y z))=true:=h2;show(decide (a<c)||(a==c&&Op.bytesLess x z))=true;rw [Bool.or_eq_true,Bool.and_eq_true,decide_eq_true_eq,beq_iff_eq] at g1 g2⊢;rcases g1 with k1|⟨e1,k1⟩
  ·rcases g2 with k2|⟨e2,k2⟩
   ·exact .inl (UInt8.lt_trans k1 k2)
   ·exact .inl (by rw [←e2];exact k1)
  ·rcases g2 with k2|⟨e2,k2⟩
   ·exact .inl (by rw [e1];exact k2)
   ·exact .inr ⟨e1.trans e2,Te x y z k1 k2⟩
structure Mk(ks:List (List UInt8))(k:List UInt8)(i:Nat):Prop where
 le:i≤ks.length
 lo:∀j x,j<i→ks[j]?=some x→Op.bytesLess x k=true
 hi:∀j x,i≤j→ks[j]?=some x→Op.bytesLess x k=false
theorem Sq(p n c:Nat)(A:Option Addr)(ks:List (List UInt8))(k:List UInt8)(w:World)(hs:w.cell? ⟨p,0,none⟩=some (.slice A n c))(h:Ey w A n ks)(hn:n≤1048576)(hsort:ks.Pairwise (fun x y=>Op.bytesLess x y=true)):
  Calls Tryz.prog 382 #[.pointer (some ⟨p,0,none⟩),.string ⟨k.toArray⟩] w fun e w'=>∃i,Mk ks k i∧e= .returned (.tuple #[Aa Ab (i:Int),.bool (decide (ks[i]?=some k))])∧Below w.heap.size w w':=by
 have H:=Hd h;have hlen:ks.length=n:=h.1;have HS:=Hd hsort;clear h hsort;go_enter Tryz.func382,Tryz.ntmps382;go_wp2_with fail;go_quiet (fail);go_wp2_with fail;go_loopw [6,7] (fun u v wr=>∃lo hi:Nat,u= Aa Ab lo∧v= Aa Ab hi∧lo≤hi∧hi≤n∧(∀j x,j<lo→ks[j]?=some x→Op.bytesLess x k=true)∧(∀j x,hi≤j→ks[j]?=some x→Op.bytesLess x k=false)∧Below w.heap.size w wr) (fun u v _=>(intOf v).toNat-(intOf u).toNat)
 case atStart=>exact⟨0,n,rfl,rfl,Atl _,Ath _,fun j x h=>by omega,fun j x h h'=>absurd (List.getElem?_eq_some_iff.1 h').1 (by omega),below_drewN (Below.refl _ _) _⟩
 case round=>
  obtain⟨lo,hi,rfl,rfl,h1,h2,h3,h4,hb⟩:=hrel;have H3:=Hd h3;have H4:=Hd h4;have HB:=Hd hb;have HI:=Hd (H.o.pure hb);have hs':=Ag hb hs;clear h3 h4 hb hs;by_cases hlt:lo<hi
  ·obtain⟨mid,hmid⟩:∃mid,lo+(hi-lo)/2=mid:=⟨_,rfl⟩;have hm1:lo≤mid:=by omega
   have hm2:mid<hi:=by omega
   have ht:((hi:Int)-(lo:Int)).tdiv 2=((hi-lo)/2:Nat):=by
    rw [show(hi:Int)-(lo:Int)=((hi-lo:Nat):Int) by omega,Int.tdiv_eq_ediv_of_nonneg (by omega)];rfl
   obtain⟨q,hq⟩:∃q,(hi-lo)/2=q:=⟨_,rfl⟩;rw [hq] at ht hmid;have hq2:q≤1048576:=by omega
   have e1:(lo:Int)+(q:Int)=(mid:Int):=by omega
   obtain⟨g,off,rfl,hk',hc⟩:=Gd HI.o (k:=mid) (by omega);obtain⟨x,hx⟩:∃x,ks[mid]=x:=⟨_,rfl⟩;rw [hx] at hc;have hmx:ks[mid]?=some x:=by rw [Ati hk',hx]
   have HMX:=Hd hmx;obtain⟨r,hr⟩:∃r,Op.bytesLess x k=r:=⟨_,rfl⟩;have HR:=Hd hr;have hmn:(mid:Int)<(n:Int):=by omega
   have hm0:(0:Int)≤(mid:Int):=by omega
   have HSR:=Hd (show ∀i j a b,i<j→ks[i]?=some a→ks[j]?=some b→Op.bytesLess a b=true from by
    intro i j a b hij ha hb;obtain⟨ha1,ha2⟩:=List.getElem?_eq_some_iff.1 ha;obtain⟨hb1,hb2⟩:=List.getElem?_eq_some_iff.1 hb;rw [←ha2,←hb2];exact List.pairwise_iff_getElem.1 HS.o i j ha1 hb1 hij)
   have hmlt:=Hd (And.intro hm1 hm2);clear hx hmx hr hq hmid hk' hm1 hm2;cases r with
   |true=>
    have e2:IntKind.i64.wrap ((mid:Int)+1)=(mid:Int)+1:=IntWalk.i64_in _ (by omega);go_wp2_with (go_at_call 361;(refine(Uz x k true _ HR.o).mono ?_);rintro e w' ⟨rfl,rfl⟩);go_roundw
    case rel=>
     refine⟨mid+1,hi,by go_num,rfl,by have:=hmlt.o;omega,h2,fun j y hj hy=>?_,H4.o,HB.o⟩;rcases Nat.lt_or_ge j mid with h|h
     ·exact Te y x k (HSR.o j mid y x h hy HMX.o) HR.o
     ·obtain rfl:j=mid:=by omega
      rw [HMX.o] at hy;injection hy with hy
      rw [←hy];exact HR.o
    case measure=>have:=hmlt.o;simp [intOf];omega
   |false=>
    go_wp2_with (go_at_call 361;(refine(Uz x k false _ HR.o).mono ?_);rintro e w' ⟨rfl,rfl⟩);go_roundw
    case rel=>
     refine⟨lo,mid,rfl,rfl,hmlt.o.1,by have:=hmlt.o;omega,H3.o,fun j y hj hy=>?_,HB.o⟩;rcases Nat.lt_or_ge mid j with h|h
     ·cases hyk:Op.bytesLess y k with
      |false=>rfl
      |true=>exact absurd (Te x y k (HSR.o mid j x y h HMX.o hy) hyk) (by rw [HR.o];decide)
     ·obtain rfl:j=mid:=by omega
      rw [HMX.o] at hy;injection hy with hy
      rw [←hy];exact HR.o
    case measure=>have:=hmlt.o;simp [intOf];omega
  ·have hd:decide ((lo:Int)<(hi:Int))=false:=decide_eq_false (by omega);have hd2:decide (lo<hi)=false:=decide_eq_false (by omega);obtain rfl:lo=hi:=by omega
   have HPI:=Hd (Mk.mk (by omega) H3.o H4.o:Mk ks k lo);clear H3 H4 h1 hlt;by_cases hln:lo<n
   ·obtain⟨g,off,rfl,hk',hc⟩:=Gd HI.o (k:=lo) hln;obtain⟨x,hx⟩:∃x,ks[lo]=x:=⟨_,rfl⟩;rw [hx] at hc;obtain⟨r,hr⟩:∃r,(x==k)=r:=⟨_,rfl⟩;have HD:=Hd (show decide (ks[lo]?=some k)=r by
     rw [Ati hk',hx,←hr];rw [Bool.eq_iff_iff];simp)
    have hd3:decide ((lo:Int)<(n:Int))=true:=decide_eq_true (by omega);have hmn:(lo:Int)<(n:Int):=by omega
    have hm0:(0:Int)≤(lo:Int):=by omega
    clear hx hk';cases r with
    |true=>
     go_wp2_with fail;go_quiet (fail);go_wp2_with fail;go_ret2;exact⟨lo,HPI.o,by rw [HD.o];rfl,below_drewN HB.o _⟩
    |false=>
     go_wp2_with fail;go_quiet (fail);go_wp2_with fail;go_ret2;exact⟨lo,HPI.o,by rw [HD.o];rfl,below_drewN HB.o _⟩
   ·have HD:=Hd (show decide (ks[lo]?=some k)=false by
     rw [List.getElem?_eq_none (by omega)];simp)
    have hd3:decide ((lo:Int)<(n:Int))=false:=decide_eq_false (by omega);have hd4:decide (lo<n)=false:=decide_eq_false (by omega);go_wp2_with fail;go_quiet (fail);go_wp2_with fail;go_ret2;exact⟨lo,HPI.o,by rw [HD.o];rfl,below_drewN HB.o _⟩
section
variable {α:Type} {f:α→List Value} {e:TypeId}
theorem Abr(hf:∀x,(f x).length=1){w:World}{B g n c:Nat}{l:List α}(h:Go.Acc.Own f 1 e w B (some ⟨g,0,none⟩) n c l):∃cur,Af w g e cur∧n≤cur.size∧
  (∀(w':World) (cur':Array Value) (off k:Nat) (m:List α),Af w' g e cur'→Lw cur off (m.flatMap f) k cur'→m.length=k→off+k≤n→Go.Acc.Own f 1 e w' B (some ⟨g,0,none⟩) n c (l.take off++m++l.drop (off+k))):=by
 obtain⟨hl,h1,h2⟩:=h;rcases h2 with⟨hv,_⟩|⟨g',cap,cur,hv,hb,hg,hnc,hcm,hcs,htake⟩
 ·cases hv
 ·injection hv with e1 _ e3
  injection e1 with e1
  injection e1 with e1
  subst e1 e3;simp only [Nat.mul_one] at hcs htake h1;refine⟨cur,hg,by omega,?_⟩;intro w' cur' off k m hB hS hm hk;refine⟨by simp;omega,?_,.inr ⟨g,c,cur',rfl,hb,hB,hnc,hcm,by rw [hS.1,Nat.mul_one];exact hcs,?_⟩⟩
  ·rw [Bj hf];simp;omega
  ·rw [Nat.mul_one,hS.take (by rw [Bj hf];omega) hk (by omega),htake,List.flatMap_append,List.flatMap_append,Me hf,Ob hf,Nat.mul_one,Nat.mul_one]
theorem Akm(cur:Array Value)(off:Nat)(vs:List Value)(h:off+vs.length≤cur.size):Lw cur off vs vs.length (cur.toList.take off++vs++cur.toList.drop (off+vs.length)).toArray:=by
 refine⟨by simp;omega,fun j=>?_⟩;rw [List.getElem?_toArray];by_cases c1:j<off
 ·rw [if_neg (by omega),Ato,List.getElem?_append_left (by simp;omega),List.getElem?_take,if_pos c1,Array.getElem?_toList]
 ·by_cases c2:j<off+vs.length
  ·rw [if_pos (by omega),Ato,List.getElem?_append_right (by simp;omega),List.getElem?_append_left (by simp;omega)]
   congr 1
   simp;omega
  ·rw [if_neg (by omega),List.getElem?_append_right (by simp;omega),List.getElem?_drop,Array.getElem?_toList]
   congr 1
   simp;omega
theorem Rn{ops:Array Oper}{o:Oper}{a:Act}{w:World}{K:Act→World→Prop}{Q:Exit→Act→World→Prop}{E:Prop}(hgd:o.guard=none)(s x:Operand)(t:TypeId)
  (ho:o.op= .call { callee:= .builtin .append,args:=#[s,x],argTypes:=#[t,t]})
  (z:Value) (bytes:Nat) (ht:Tryz.prog.underlying t=some (.slice e)) (hi:(Tryz.prog.info? e).map (fun i=>(i.zero,i.size,i.bytes))=some (some z,1,bytes)) (hzs:z.cells.size=1) (hb16:bytes≤16)
  (hf:∀x,(f x).length=1) (h1:∀x,∀u∈f x,u.oneCell'=true)
  (B:Nat) (A:Option Addr) (n c:Nat) (l:List α) (hs:a.eval s= .slice A n c) (hown:Go.Acc.Own f 1 e w B A n c l)
  (A2:Option Addr) (m d:Nat) (l2:List α) (hx:a.eval x= .slice A2 m d) (hr:Is f w A2 m l2)
  (hbytes:n+m≤1099511627776) (hbase:B≤w.heap.size)
  (h:∀A' c' w',Go.Acc.Own f 1 e w' B A' (n+m) c' (l++l2)→Fr (fun k=>∃ad,A=some ad∧k=ad.block) w w'→(A'.map (·.block)=A.map (·.block)∨A'.map (·.block)=some w.heap.size)→K (a.put o.dst (.slice A' (n+m) c')) w'):
  if Region.wanted o (yielded ops a.tmps)=true then Oper.wp Tryz.prog o a w K Q else E:=by
 have hw:Region.wanted o (yielded ops a.tmps)=true:=by simp [Region.wanted,hgd]
 rw [if_pos hw];obtain⟨i,hi',hz,hsize,hby⟩:=info_parts hi;have e2:n+m≤maxLen:=by simp only [maxLen];omega
 have e3:(n+m)*bytes≤140737488355328:=Nat.le_trans (Nat.mul_le_mul hbytes hb16) (by decide);obtain⟨v',w',hrun,h2,h3,h4⟩:=Lu (P:=Tryz.prog) w B t o.type e i z 1 bytes ht hi' hz hsize hby hzs (by omega) (.slice A n c) n (l.flatMap f) hown.2 A2 m d (l2.flatMap f) (by rw [Bj hf,hr.1]) hr.2 (Q0 h1 l2) e2 e3 hbase;obtain⟨A',c',rfl,ho'⟩:=Own.mk hf (by omega) (l:=l++l2) h2 List.flatMap_append.symm;have hk:=h A' c' w' ho' ((Fr.of_grown h3).mono fun i _ hi=>by
  cases A with
  |none=>simp [Value.ownBlock] at hi
  |some ad=>simp [Value.ownBlock] at hi;exact⟨ad,rfl,hi⟩) (by
  cases A <;>cases A' <;>simp only [Value.ownBlock,Option.map] at h4⊢ <;>exact h4)
 clear h ho' h2 h3 h4;unfold Oper.wp;simp only [execOp,ho,resolve,invoke,builtin,Sem.run_bind,Sem.run_pure,Result.andThen_ok,List.map_toArray,List.map_cons,List.map_nil,hs,hx,hrun];exact hk
theorem Vk{ops:Array Oper}{o:Oper}{a:Act}{w:World}{K:Act→World→Prop}{Q:Exit→Act→World→Prop}{E:Prop}(hgd:o.guard=none)(d s:Operand)(t:TypeId)
  (ho:o.op= .call { callee:= .builtin .copy,args:=#[d,s],argTypes:=#[t,t]})
  (ht:Tryz.prog.underlying t=some (.slice e)) (hi:(Tryz.prog.info? e).map (·.size)=some 1) (hf:∀x,(f x).length=1) (h1:∀x,∀u∈f x,u.oneCell'=true)
  (X Y:Option Addr) (kd ks cd cs:Nat) (hd:a.eval d= .slice X kd cd) (hs:a.eval s= .slice Y ks cs) (hk:kd≤ks)
  (B:Nat) (A:Option Addr) (n c off:Nat) (m src:List α) (hown:Go.Acc.Own f 1 e w B A n c m) (hX:0<kd→X=A.map (·.add off)) (hoff:off+kd≤n) (hsrc:Is f w Y kd src)
  (h:∀w',Go.Acc.Own f 1 e w' B A n c (m.take off++src++m.drop (off+kd))→Fr (fun j=>∃ad,A=some ad∧j=ad.block) w w'→K (a.put o.dst (Aa Ab kd)) w'):
  if Region.wanted o (yielded ops a.tmps)=true then Oper.wp Tryz.prog o a w K Q else E:=by
 have hw:Region.wanted o (yielded ops a.tmps)=true:=by simp [Region.wanted,hgd]
 rw [if_pos hw];have hlen:=hsrc.1;by_cases h0:kd=0
 ·subst h0;have hrun:=run_copy_none (P:=Tryz.prog) w t t o.type e X Y 0 cd ks cs ht hi (by simp);obtain rfl:src=[]:=List.eq_nil_of_length_eq_zero hlen;have hk:=h w (by simpa using hown) (Fr.refl _ _);clear h;unfold Oper.wp;simp [execOp,ho,resolve,invoke,builtin,hd,hs,hrun,Result.andThen];exact hk
 ·have hX:=hX (by omega);obtain⟨sb,so,rfl,_⟩:=hsrc.some_ hf (by omega) (by omega);cases A with
  |none=>
   have:=hown.is.none_ hf (by omega);omega
  |some ad=>
   obtain⟨had,hge,hlt⟩:=hown.addr ad rfl;obtain⟨g,rfl⟩:∃g,ad=⟨g,0,none⟩:=⟨_,had⟩;obtain⟨cur,hK,hsz,hback⟩:=Abr hf hown;obtain rfl:X=some ⟨g,off,none⟩:=by rw [hX];simp [Ho]
   have hl:(src.flatMap f).length=kd:=by rw [Bj hf,hlen,Nat.mul_one]
   have hrun:=run_copy_row (P:=Tryz.prog) w t t o.type e g off kd cd ⟨sb,so,none⟩ ks cs cur e (src.flatMap f) ht hi hK (by rw [hl];exact(Nat.min_eq_right hk).symm) hsrc.2.cells (by rw [hl];omega) (Q0 h1 src);rw [hl] at hrun;have hS:=Akm cur off (src.flatMap f) (by rw [hl];omega);rw [hl] at hS;have hO:=hback (w.setRow g (cur.toList.take off++src.flatMap f++cur.toList.drop (off+kd)).toArray) _ off kd src (setRow_heap w g cur _ _ _ hK) hS hlen hoff;have hk:=h _ hO ⟨rfl,rfl,rfl,by simp [World.setRow],fun i _ hi=>setRow_other w g i _ (by rintro rfl;exact hi ⟨_,rfl,rfl⟩)⟩;clear h hback hO hS;unfold Oper.wp;simp only [execOp,ho,resolve,invoke,builtin,Sem.run_bind,Sem.run_pure,Result.andThen_ok,List.map_toArray,List.map_cons,List.map_nil,hd,hs,hrun];exact hk
end
theorem Ul{α:Type}{f:α→List Value}{g n c lo:Nat}(h1:lo≤n)(hc:n≤c)(hf:∀x,(f x).length=1):(0<n-lo→(if c=lo then some (⟨g,0,none⟩:Addr) else some ⟨g,lo,none⟩)=(some (⟨g,0,none⟩:Addr)).map (·.add lo))∧
  ∀(w:World) (l:List α),Is f w (some ⟨g,0,none⟩) n l→Is f w (if c=lo then some (⟨g,0,none⟩:Addr) else some ⟨g,lo,none⟩) (n-lo) (l.drop lo):=by
 refine⟨fun h=>?_,fun w l h=>?_⟩
 ·rw [if_neg (by omega)];simp [Ho]
 ·split
  ·rename_i e;exact h.cut0 e hc
  ·have:=h.cut1 (k:=lo) hf;simpa [Ho] using this
theorem Jh(w:World):Below w.heap.size w w.drew:=(Below.refl _ _).drew
theorem Cn{w:World}{p:Addr}{u:Value}(o:Obj)(h:w.cell? p=some u):(w.alloc o).cell? p=some u:=Ag ((Below.refl _ _).alloc (Ath _) o) h
structure Db(w0:World)(p:Nat)(A10 A20:Option Addr)(A1:Option Addr)(n1 c1:Nat)(ks:List (List UInt8))(A2:Option Addr)(n2 c2:Nat)(ns:List Nat)(x0 x1:Value)(w:World):Prop where
 blk:Af w p 265 #[x0,x1,.bool true]
 o1:Kz w 0 A1 n1 c1 ks
 o2:Qh w 0 A2 n2 c2 ns
 d1:∀a,A1=some a→a.block≠p
 d2:∀a,A2=some a→a.block≠p
 d12:∀a b,A1=some a→A2=some b→a.block≠b.block
 fr:Fr (fun k=>k=p∨(∃a,A10=some a∧k=a.block)∨(∃a,A20=some a∧k=a.block)) w0 w
 w1:A1.map (·.block)=A10.map (·.block)∨∃k,A1.map (·.block)=some k∧w0.heap.size≤k
 w2:A2.map (·.block)=A20.map (·.block)∨∃k,A2.map (·.block)=some k∧w0.heap.size≤k
section
variable {w0 w:World} {p:Nat} {A10 A20 A1 A2:Option Addr} {n1 c1 n2 c2:Nat} {ks:List (List UInt8)} {ns:List Nat} {x0 x1:Value}
theorem Aju(h:A1.map (·.block)=A10.map (·.block)∨∃k,A1.map (·.block)=some k∧w0.heap.size≤k)(k:Nat)(hk:k<w0.heap.size)(ha:∃a,A1=some a∧k=a.block):∃a,A10=some a∧k=a.block:=by
 obtain⟨a,rfl,rfl⟩:=ha;rcases h with e|⟨k',e,hk'⟩
 ·cases A10 with
  |none=>cases e
  |some b=>injection e with e;exact⟨b,rfl,e⟩
 ·injection e with e
  have e:a.block=k':=e;omega
theorem Db.below(h:Db w0 p A10 A20 A1 n1 c1 ks A2 n2 c2 ns x0 x1 w){w':World}(hb:Below w.heap.size w w'):Db w0 p A10 A20 A1 n1 c1 ks A2 n2 c2 ns x0 x1 w':=
 ⟨h.blk.pure hb,h.o1.pure hb,h.o2.pure hb,h.d1,h.d2,h.d12,h.fr.trans (Fr.of_below hb (fun _=>False)) (fun _ _ h=>h.elim),h.w1,h.w2⟩
theorem Db.alloc(h:Db w0 p A10 A20 A1 n1 c1 ks A2 n2 c2 ns x0 x1 w)(o:Obj):Db w0 p A10 A20 A1 n1 c1 ks A2 n2 c2 ns x0 x1 (w.alloc o):=
 h.below ((Below.refl _ _).alloc (Ath _) o)
theorem Db.app1(h:Db w0 p A10 A20 A1 n1 c1 ks A2 n2 c2 ns x0 x1 w){w':World}{A':Option Addr}{n' c':Nat}{ks':List (List UInt8)}(ho:Kz w' 0 A' n' c' ks')
  (hf:Fr (fun k=>∃a,A1=some a∧k=a.block) w w') (hw:A'.map (·.block)=A1.map (·.block)∨A'.map (·.block)=some w.heap.size):Db w0 p A10 A20 A' n' c' ks' A2 n2 c2 ns x0 x1 w':=by
 have hp:=h.blk.lt;have h2:∀b,A2=some b→b.block<w.heap.size:=fun b hb=>(h.o2.addr b hb).2.2
 have hA:∀a,A'=some a→(∃a',A1=some a'∧a'.block=a.block)∨a.block=w.heap.size:=by
  rintro a rfl;rcases hw with e|e
  ·cases A1 with
   |none=>cases e
   |some b=>injection e with e;exact .inl ⟨b,rfl,e.symm⟩
  ·injection e with e;exact .inr e
 refine⟨h.blk.fr hf (fun⟨a,e1,e2⟩=>h.d1 a e1 e2.symm),ho,h.o2.fr hf (fun b hb ⟨a,e1,e2⟩=>h.d12 a b e1 hb e2.symm),?_,h.d2,?_,?_,?_,h.w2⟩
 ·intro a ha;rcases hA a ha with⟨a',e1,e2⟩|e
  ·rw [←e2];exact h.d1 a' e1
  ·omega
 ·intro a b ha hb;have:=h2 b hb;rcases hA a ha with⟨a',e1,e2⟩|e
  ·rw [←e2];exact h.d12 a' b e1 hb
  ·omega
 ·exact h.fr.trans hf (fun k hk ha=> .inr (.inl (Aju h.w1 k hk ha)))
 ·rcases hw with e|e
  ·rw [e];exact h.w1
  ·exact .inr ⟨_,e,h.fr.size⟩
theorem Db.app2(h:Db w0 p A10 A20 A1 n1 c1 ks A2 n2 c2 ns x0 x1 w){w':World}{A':Option Addr}{n' c':Nat}{ns':List Nat}(ho:Qh w' 0 A' n' c' ns')
  (hf:Fr (fun k=>∃a,A2=some a∧k=a.block) w w') (hw:A'.map (·.block)=A2.map (·.block)∨A'.map (·.block)=some w.heap.size):Db w0 p A10 A20 A1 n1 c1 ks A' n' c' ns' x0 x1 w':=by
 have hp:=h.blk.lt;have h2:∀b,A1=some b→b.block<w.heap.size:=fun b hb=>(h.o1.addr b hb).2.2
 have hA:∀a,A'=some a→(∃a',A2=some a'∧a'.block=a.block)∨a.block=w.heap.size:=by
  rintro a rfl;rcases hw with e|e
  ·cases A2 with
   |none=>cases e
   |some b=>injection e with e;exact .inl ⟨b,rfl,e.symm⟩
  ·injection e with e;exact .inr e
 refine⟨h.blk.fr hf (fun⟨a,e1,e2⟩=>h.d2 a e1 e2.symm),h.o1.fr hf (fun b hb ⟨a,e1,e2⟩=>h.d12 b a hb e1 e2),ho,h.d1,?_,?_,?_,h.w1,?_⟩
 ·intro a ha;rcases hA a ha with⟨a',e1,e2⟩|e
  ·rw [←e2];exact h.d2 a' e1
  ·omega
 ·intro b a hb ha;have:=h2 b hb;rcases hA a ha with⟨a',e1,e2⟩|e
  ·rw [←e2];exact h.d12 b a' hb e1
  ·omega
 ·exact h.fr.trans hf (fun k hk ha=> .inr (.inr (Aju h.w2 k hk ha)))
 ·rcases hw with e|e
  ·rw [e];exact h.w2
  ·exact .inr ⟨_,e,h.fr.size⟩
theorem Db.set0(h:Db w0 p A10 A20 A1 n1 c1 ks A2 n2 c2 ns x0 x1 w)(v:Value):Db w0 p A10 A20 A1 n1 c1 ks A2 n2 c2 ns v x1 (w.setCell ⟨p,0,none⟩ v):=by
 have hf:=Fr.setCell (S:=fun k=>k=p) (Fr.refl (fun k=>k=p) w) (p:=⟨p,0,none⟩) (fun _=>rfl) v;exact⟨h.blk.set_ 0 v,h.o1.fr hf (fun a e=>h.d1 a e),h.o2.fr hf (fun a e=>h.d2 a e),h.d1,h.d2,h.d12,h.fr.trans hf (fun k _ e=> .inl e),h.w1,h.w2⟩
theorem Db.set1(h:Db w0 p A10 A20 A1 n1 c1 ks A2 n2 c2 ns x0 x1 w)(v:Value):Db w0 p A10 A20 A1 n1 c1 ks A2 n2 c2 ns x0 v (w.setCell ⟨p,1,none⟩ v):=by
 have hf:=Fr.setCell (S:=fun k=>k=p) (Fr.refl (fun k=>k=p) w) (p:=⟨p,1,none⟩) (fun _=>rfl) v;exact⟨h.blk.set_ 1 v,h.o1.fr hf (fun a e=>h.d1 a e),h.o2.fr hf (fun a e=>h.d2 a e),h.d1,h.d2,h.d12,h.fr.trans hf (fun k _ e=> .inl e),h.w1,h.w2⟩
theorem Jq(w:World)(o:Obj):(w.alloc o).heap.size=w.heap.size+1:=by simp
theorem Sc(W:World)(z:List UInt8):Ey (W.alloc (.cells #[.string ⟨z.toArray⟩] 9)) (some ⟨W.heap.size,0,none⟩) 1 [z]:=by
 refine⟨rfl,fun j u hu=>⟨_,_,rfl,?_⟩⟩;rw [Nat.zero_add,(Af.new W _ _).cell j];simpa [Jc] using hu
theorem Wg(W:World):Is Jw (W.alloc (.cells #[Aa Ab 0] 3)) (some ⟨W.heap.size,0,none⟩) 1 [0]:=by
 refine⟨rfl,fun j u hu=>⟨_,_,rfl,?_⟩⟩;rw [Nat.zero_add,(Af.new W _ _).cell j];simpa [Jw] using hu
theorem Pe{α:Type}{f:α→List Value}{W w':World}{A:Option Addr}{g B n:Nat}{l:List α}(h:Is f W (some ⟨g,0,none⟩) n l)(hf:Fr (fun k=>∃a,A=some a∧k=a.block) W w')(hA:∀a,A=some a→a.block<B)(hB:B≤g):Is f w' (some ⟨g,0,none⟩) n l:=by
 refine h.fr hf ?_;rintro ad e ⟨a,e1,e2⟩;cases e;have e2:g=a.block:=e2;have:=hA a e1;omega
theorem Aqg(cur:Array Value)(i:Nat)(v:Value)(h:i<cur.size):Lw cur i [v] 1 (cur.setIfInBounds i v):=by
 refine⟨by simp,fun j=>?_⟩;rw [Array.getElem?_setIfInBounds];by_cases e:i=j
 ·subst e;rw [if_pos rfl,if_pos h,if_pos ⟨Ath _,Nat.lt_succ_self _⟩];simp
 ·rw [if_neg e,if_neg (by omega)]
theorem Gx{α:Type}{f:α→List Value}{e:TypeId}(hf:∀x,(f x).length=1){g n c i:Nat}{l:List α}(h:Go.Acc.Own f 1 e w 0 (some ⟨g,0,none⟩) n c l)(hi:i<n)(x:α)(v:Value)(hx:f x=[v]):
  (∃u,w.cell? ⟨g,i,none⟩=some u)∧w.frozen? ⟨g,i,none⟩=false∧Go.Acc.Own f 1 e (w.setCell ⟨g,i,none⟩ v) 0 (some ⟨g,0,none⟩) n c (l.take i++ [x]++l.drop (i+1)):=by
 obtain⟨cur,hK,hsz,hback⟩:=Abr hf h;refine⟨⟨cur[i]'(by omega),by rw [hK.cell i,Array.getElem?_eq_getElem (by omega)]⟩,hK.frozen i,?_⟩;refine hback _ (cur.setIfInBounds i v) i 1 [x] (hK.set_ i v) ?_ rfl (by omega);simpa [hx] using Aqg cur i v (by omega)
theorem Db.store1{g:Nat}(h:Db w0 p A10 A20 (some ⟨g,0,none⟩) n1 c1 ks A2 n2 c2 ns x0 x1 w){i:Nat}(hi:i<n1)(s:List UInt8):
  Db w0 p A10 A20 (some ⟨g,0,none⟩) n1 c1 (ks.take i++ [s]++ks.drop (i+1)) A2 n2 c2 ns x0 x1 (w.setCell ⟨g,i,none⟩ (.string ⟨s.toArray⟩)):=
 h.app1 (Gx Dp h.o1 hi s _ rfl).2.2 (Fr.setCell (S:=fun k=>∃a,some (⟨g,0,none⟩:Addr)=some a∧k=a.block) (Fr.refl _ w) (p:=⟨g,i,none⟩) (fun _=>⟨_,rfl,rfl⟩) _) (.inl rfl)
theorem Db.store2{g:Nat}(h:Db w0 p A10 A20 A1 n1 c1 ks (some ⟨g,0,none⟩) n2 c2 ns x0 x1 w){i:Nat}(hi:i<n2)(a:Nat):
  Db w0 p A10 A20 A1 n1 c1 ks (some ⟨g,0,none⟩) n2 c2 (ns.take i++ [a]++ns.drop (i+1)) x0 x1 (w.setCell ⟨g,i,none⟩ (Aa Ab (a:Int))):=
 h.app2 (Gx Fl h.o2 hi a _ rfl).2.2 (Fr.setCell (S:=fun k=>∃a,some (⟨g,0,none⟩:Addr)=some a∧k=a.block) (Fr.refl _ w) (p:=⟨g,i,none⟩) (fun _=>⟨_,rfl,rfl⟩) _) (.inl rfl)
theorem Akj{α:Type}{f:α→List Value}{e:TypeId}{A:Option Addr}{n c:Nat}{l:List α}(hf:∀x,(f x).length=1)(h:Go.Acc.Own f 1 e w 0 A n c l)(hn:0<n):∃g,A=some ⟨g,0,none⟩:=by
 obtain⟨sb,so,rfl,_⟩:=h.is.some_ hf (by omega) hn;exact⟨_,congrArg some (h.addr _ rfl).1⟩
theorem Aa8{α:Type}(l:List α)(z s:α)(i:Nat)(hi:i≤l.length):
  (((l++ [z]).take (i+1)++((l++ [z]).drop i).take (l.length-i)++(l++ [z]).drop (i+1+(l.length-i))).take i++ [s]++
   ((l++ [z]).take (i+1)++((l++ [z]).drop i).take (l.length-i)++(l++ [z]).drop (i+1+(l.length-i))).drop (i+1))=l.take i++ [s]++l.drop i:=by
 have e1:((l++ [z]).drop i).take (l.length-i)=l.drop i:=by
  rw [List.drop_append_of_le_length hi,List.take_append_of_le_length (by simp),Att (by simp)]
 have e2:(l++ [z]).drop (i+1+(l.length-i))=[]:=List.drop_eq_nil_of_le (by simp;omega);have e3:((l++ [z]).take (i+1)).length=i+1:=by simp;omega
 rw [e1,e2,List.append_nil,List.take_append_of_le_length (by omega),List.take_take,Nat.min_eq_left (by omega),List.drop_append_of_le_length (by omega),List.drop_eq_nil_of_le (by omega),List.nil_append,List.take_append_of_le_length hi]
theorem Mh{ops:Array Oper}{o:Oper}{a:Act}{K:Act→World→Prop}{Q:Exit→Act→World→Prop}{E:Prop}(hgd:o.guard=none)(s x:Operand)
  (ho:o.op= .call { callee:= .builtin .append,args:=#[s,x],argTypes:=#[23,23]})
  (H:Db w0 p A10 A20 A1 n1 c1 ks A2 n2 c2 ns x0 x1 w) (hs:a.eval s= .slice A1 n1 c1) (A3:Option Addr) (z:List UInt8) (hr:Ey w A3 1 [z]) (hx:a.eval x= .slice A3 1 1) (hn:n1≤1048576)
  (h:∀A' c' w',Db w0 p A10 A20 A' (n1+1) c' (ks++ [z]) A2 n2 c2 ns x0 x1 w'→Fr (fun k=>∃a,A1=some a∧k=a.block) w w'→K (a.put o.dst (.slice A' (n1+1) c')) w'):
  if Region.wanted o (yielded ops a.tmps)=true then Oper.wp Tryz.prog o a w K Q else E:=by
 refine Rn hgd s x 23 ho (.string ⟨#[]⟩) 16 (by kernel_rfl) (by kernel_rfl) rfl (by decide) Dp Ot 0 A1 n1 c1 ks hs H.o1 A3 1 1 [z] hx hr (by omega) (Atl _) ?_;intro A' c' w' hown hf hw;exact h A' c' w' (H.app1 hown hf hw) hf
theorem Mi{ops:Array Oper}{o:Oper}{a:Act}{K:Act→World→Prop}{Q:Exit→Act→World→Prop}{E:Prop}(hgd:o.guard=none)(s x:Operand)
  (ho:o.op= .call { callee:= .builtin .append,args:=#[s,x],argTypes:=#[151,151]})
  (H:Db w0 p A10 A20 A1 n1 c1 ks A2 n2 c2 ns x0 x1 w) (hs:a.eval s= .slice A2 n2 c2) (A3:Option Addr) (z:Nat) (hr:Is Jw w A3 1 [z]) (hx:a.eval x= .slice A3 1 1) (hn:n2≤1048576)
  (h:∀A' c' w',Db w0 p A10 A20 A1 n1 c1 ks A' (n2+1) c' (ns++ [z]) x0 x1 w'→Fr (fun k=>∃a,A2=some a∧k=a.block) w w'→K (a.put o.dst (.slice A' (n2+1) c')) w'):
  if Region.wanted o (yielded ops a.tmps)=true then Oper.wp Tryz.prog o a w K Q else E:=by
 refine Rn hgd s x 151 ho (Aa Ab 0) 8 (by kernel_rfl) (by kernel_rfl) rfl (by decide) Fl Aef 0 A2 n2 c2 ns hs H.o2 A3 1 1 [z] hx hr (by omega) (Atl _) ?_;intro A' c' w' hown hf hw;exact h A' c' w' (H.app2 hown hf hw) hf
end
end Go.Proofs.YtgbjodnegkbfoaaGreat
