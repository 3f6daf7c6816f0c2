/- Parts of the proof. -/
import Derived.Test.YtgbjodnegkbfoaaGreatQa16
import Derived.Shelf.SlSortCmp.NoneTotal
import Derived.Shelf.Small.Strs
import Derived.Ground.SlsfProg
import Derived.Ground.NamesProg
import Derived.Shelf.SlSortCmp.WholeK
set_option maxHeartbeats 4000000
set_option maxRecDepth 100000
open Go.Value renaming int→Aa
open Go.IntKind renaming i64→Ab,u64→Ac
open Nat renaming le_refl→Ath,zero_le→Atl,lt_of_lt_of_le→Atr
open List renaming getElem?_eq_getElem→Ati,take_of_length_le→Att,take_succ_eq_append_getElem→Atv
namespace Go.Proofs.YtgbjodnegkbfoaaGreat
open Go.RowKit Go.Acc
theorem Adk(M:Bp)(fl:Int)(b:Bd)(em:Int)(A:Option Addr)(n c:Nat)(vs:List Bv)(l':List UInt8)(v':Bv)(bx be bl:Nat)(w:World)(o:Nat→Nat)(h:BM M fl w o b)(hx:Af w bx 120 #[.pointer (some ⟨M.β,0,none⟩)])(he:Af w be 3 #[Aa Ab em])(hl:Af w bl 185 #[.slice A n c])
  (hv:D9 w A n (vs.map vv)) (ho:∀ad,A=some ad→ad.block<w.heap.size∧o ad.block=0) (hs:b.s.length<65536) (hn:n=2∨n=3∨n=4) (hP:L6 M b.b em n A n c vs (l',v')):
  Calls Tryz.prog 325 #[.pointer (some ⟨bl,0,none⟩),.pointer (some ⟨bx,0,none⟩),.pointer (some ⟨be,0,none⟩)] w (Cq M fl { b with b:=l',s:=b.s++ [v']} w o):=by
 have HV:=Hd (H8 M fl b em n A n c vs l' v' w o h hv ho hs hP);have x0:w.cell? ⟨bx,0,none⟩=some (.pointer (some ⟨M.β,0,none⟩)):=hx.cell 0;have e0:w.cell? ⟨be,0,none⟩=some (Aa Ab em):=he.cell 0;have l0:w.cell? ⟨bl,0,none⟩=some (.slice A n c):=hl.cell 0;have d1:decide ((n:Int)<2)=false:=decide_eq_false (by omega);have d2:decide ((4:Int)<(n:Int))=false:=decide_eq_false (by omega);have d3:decide (n<2)=false:=decide_eq_false (by omega);have d4:decide (4<n)=false:=decide_eq_false (by omega);clear h hx he hl hv ho hs hn hP;go_enter Tryz.func325,Tryz.ntmps325;go_wp2_with fail;go_at_call 218;refine HV.o.mono ?_;rintro e w2 hR;obtain rfl:=hR.1;have HR:=Hd hR;clear hR x0 e0 l0;go_wp2_with fail;go_end0;exact HR.o
theorem Us(M:Bp)(fl:Int)(b:Bd)(em:Int)(A:Option Addr)(n c:Nat)(vs:List Bv)(l':List UInt8)(v':Bv)(w:World)(o:Nat→Nat)(h:BM M fl w o b)(hv:D9 w A n (vs.map vv))(ho:∀ad,A=some ad→ad.block<w.heap.size∧o ad.block=0)(hs:b.s.length<65536)
  (hn:n=2∨n=3∨n=4) (hP:L6 M b.b em n A n c vs (l',v')):
  Calls Tryz.prog 229 #[.pointer (some ⟨M.β,0,none⟩),Aa Ab em,.slice A n c] w (Cq M fl { b with b:=l',s:=b.s++ [v']} w o):=by
 have hB:=Ny w (.cells #[.pointer (some ⟨M.β,0,none⟩)] 120) (.cells #[Aa Ab em] 3) (.cells #[.slice A n c] 185);have HB:=Hd hB;have HM:=Hd (h.fresh hB 0);have HF:=Hd (Adk M fl b em A n c vs l' v' w.heap.size (w.heap.size+1) (w.heap.size+1+1) _ (Ak o w.heap.size 0) (h.fresh hB 0) (((Af.new w 120 #[.pointer (some ⟨M.β,0,none⟩)]).alloc _).alloc _) ((B5 w _ 3 #[Aa Ab em]).alloc _) (K1 w _ _ 185 #[.slice A n c])
  (hv.pure hB) (fun ad e=>⟨by have h1:=(ho ad e).1;have h2:=hB.size;omega,by rw [Au (ho ad e).1];exact(ho ad e).2⟩) hs hn hP)
 clear h hs hB hP hv ho hn;go_enter Tryz.func229,Tryz.ntmps229;go_wp2_with fail;go_at_call 225;refine(Dq M fl 325 _ _ (Ak o w.heap.size 0) b.vals _ HM.o.head Tryz.call325 (HF.o.mono fun e w' h=>⟨h.1,h⟩)).mono ?_;rintro e w' hR;obtain rfl:=hR.1;have HR:=Hd (hR.from_fresh HB.o);clear hR;go_wp2;go_end0;exact HR.o
theorem Aar(M:Bp)(fl:Int)(b:Bd)(A:Option Addr)(n c:Nat)(l:List Int)(w:World)(o:Nat→Nat)(h:BM M fl w o b)(hI:Is nbc w A n l)(hn:n=2∨n=3∨n=4)(hs:b.s.length<65536)(hbd:∀x∈l, -9223372036854775808≤x∧x≤9223372036854775807)(hl:b.b.length+40+9*l.length≤1048576):
  Calls Tryz.prog 146 #[.pointer (some ⟨M.β,0,none⟩),.slice A n c] w (Cq M fl (b.vec (10+3*n) false false (l.map Cf)) w o):=by
 have HM:=Hd h;have HI:=Hd hI;have HS:=Hd hs;have HBD:=Hd hbd;have HL:=Hd hl;have HN:=Hd hn;have hn1:n≤1000000:=by omega
 have HT:=Hd (show vecTy 1 n=10+3*n by rcases hn with rfl|rfl|rfl <;>rfl);clear h hI hs hbd hl hn;go_enter Tryz.func146,Tryz.ntmps146;go_wp2_with fail;go_at_call 219;refine(X0 A n c l _ HI.o hn1 HBD.o).mono ?_;rintro e w1 ⟨A1,c1,rfl,hO,hb⟩;have HM1:=Hd (HM.o.fresh hb 0);have HO1:=Hd hO;have HB1:=Hd hb;clear hO hb;have HP:=Hd (Aet (M:=M) (A:=A1) (n:=n) (c:=c1) (Aek HL.o) (e:=1) (by have:=HN.o;unfold K0;omega) (by have:=HN.o;omega) (fun v hv=>by obtain⟨x,_,rfl⟩:=List.mem_map.1 hv;rfl));rw [HT.o] at HP;go_wp2_with fail;go_at_call 229;refine(Us M fl b ((1:Nat):Int) A1 n c1 (l.map Cf) (Bc (10+3*n) false false (l.map Cf) b.b).1 (Bc (10+3*n) false false (l.map Cf) b.b).2 w1 _ HM1.o HO1.o.is (fun ad e=>⟨(HO1.o.addr ad e).2.2,Am (HO1.o.addr ad e).2.1⟩) HS.o HN.o HP.o).mono ?_;rintro e w2 hR;obtain rfl:=hR.1;have HR:=Hd (Cq.from_fresh HB1.o hR);clear hR;go_wp2_with fail;go_end0;exact HR.o
theorem Y1(M:Bp)(fl:Int)(b:Bd)(A:Option Addr)(n c:Nat)(l:List Nat)(w:World)(o:Nat→Nat)(h:BM M fl w o b)(hI:Is ubc w A n l)(hn:n=2∨n=3∨n=4)(hs:b.s.length<65536)(hbd:∀x∈l,x<18446744073709551616)(hl:b.b.length+40+9*l.length≤1048576):
  Calls Tryz.prog 147 #[.pointer (some ⟨M.β,0,none⟩),.slice A n c] w (Cq M fl (b.vec (11+3*n) false false (l.map Ch)) w o):=by
 have HM:=Hd h;have HI:=Hd hI;have HS:=Hd hs;have HBD:=Hd hbd;have HL:=Hd hl;have HN:=Hd hn;have hn1:n≤1000000:=by omega
 have HT:=Hd (show vecTy 2 n=11+3*n by rcases hn with rfl|rfl|rfl <;>rfl);clear h hI hs hbd hl hn;go_enter Tryz.func147,Tryz.ntmps147;go_wp2_with fail;go_at_call 221;refine(X1 A n c l _ HI.o hn1 HBD.o).mono ?_;rintro e w1 ⟨A1,c1,rfl,hO,hb⟩;have HM1:=Hd (HM.o.fresh hb 0);have HO1:=Hd hO;have HB1:=Hd hb;clear hO hb;have HP:=Hd (Aet (M:=M) (A:=A1) (n:=n) (c:=c1) (Afg HL.o) (e:=2) (by have:=HN.o;unfold K0;omega) (by have:=HN.o;omega) (fun v hv=>by obtain⟨x,_,rfl⟩:=List.mem_map.1 hv;rfl));rw [HT.o] at HP;go_wp2_with fail;go_at_call 229;refine(Us M fl b ((2:Nat):Int) A1 n c1 (l.map Ch) (Bc (11+3*n) false false (l.map Ch) b.b).1 (Bc (11+3*n) false false (l.map Ch) b.b).2 w1 _ HM1.o HO1.o.is (fun ad e=>⟨(HO1.o.addr ad e).2.2,Am (HO1.o.addr ad e).2.1⟩) HS.o HN.o HP.o).mono ?_;rintro e w2 hR;obtain rfl:=hR.1;have HR:=Hd (Cq.from_fresh HB1.o hR);clear hR;go_wp2_with fail;go_end0;exact HR.o
theorem Yf(f:Nat):∀(l:List (List UInt8)) (s:List UInt8) (b:Bd),b.puts f (l++ [s])=(((b.puts f l).1.put f s).1,(b.puts f l).2++ [((b.puts f l).1.put f s).2])
 | [],s,b=>by simp [Bd.puts]
 |x::r,s,b=>by
  rw [List.cons_append];simp only [Bd.puts,Yf f r s,List.cons_append]
theorem Anl(f:Nat)(s:List UInt8)(b:Bd):(b.put f s).1.b.length≤b.b.length+s.length+1∧(b.put f s).1.keys.length≤b.keys.length+1∧(b.put f s).1.names.length≤b.names.length+1∧(b.put f s).1.s=b.s:=by
 unfold Bd.put;have h:=Pt b.keys s b.b.length;cases(if Ek f 1=true then Bf b.keys s else none) with
 |some a=>exact⟨by simp;omega,by simp,by simp,rfl⟩
 |none=>exact⟨by simp;omega,by simpa using h,by simp,rfl⟩
theorem Q8(l m:List (List UInt8)):Bb (l++m)=Bb l+Bb m:=by
 induction l with
 |nil=>simp [Bb]
 |cons s r ih=>simp only [List.cons_append,Bb,ih];omega
theorem Yd(f:Nat)(l:List (List UInt8))(b:Bd):(b.puts f l).1.b.length≤b.b.length+Bb l∧(b.puts f l).1.keys.length≤b.keys.length+l.length∧(b.puts f l).1.names.length≤b.names.length+l.length∧(b.puts f l).1.s=b.s:=by
 induction l generalizing b with
 |nil=>simp [Bd.puts,Bb]
 |cons s r ih=>
  obtain⟨a1,a2,a3,a4⟩:=Anl f s b;obtain⟨b1,b2,b3,b4⟩:=ih (b.put f s).1;simp only [Bd.puts,Bb,List.length_cons];exact⟨by omega,by omega,by omega,b4.trans a4⟩
structure Ry(b:Bd)(l:List (List UInt8)):Prop where
 st:b.s.length<65536
 len:b.b.length+Bb l≤1048576
 ky:b.keys.length+l.length≤1048575
 nm:b.names.length+l.length≤1048575
theorem Ry.at_{b:Bd}{l:List (List UInt8)}(h:Ry b l)(f:Nat){k:Nat}{s:List UInt8}(hs:l[k]?=some s):Ow (b.puts f (l.take k)).1 s:=by
 obtain⟨g1,g2,g3,g4⟩:=Yd f (l.take k) b;have hk:k<l.length:=(List.getElem?_eq_some_iff.1 hs).1;have e:l=l.take k++s::l.drop (k+1):=by
  have h1:=(List.getElem?_eq_some_iff.1 hs).2
  conv=>lhs;rw [←List.take_append_drop k l,List.drop_eq_getElem_cons hk,h1]
 have hc:Bb l=Bb (l.take k)+(s.length+20+Bb (l.drop (k+1))):=by
  conv=>lhs;rw [e]
  rw [Q8];rfl
 rw [List.length_take,Nat.min_eq_left (by omega)] at g2 g3;have h1:=h.len;have h2:=h.ky;have h3:=h.nm;exact⟨by rw [g4];exact h.st,by omega,by omega,by omega⟩
theorem An8{I S:Nat→Prop}{w w' w'':World}{o o':Nat→Nat}(h:To I w o w' o')(hf:Fr S w' w'')(hS:∀k,S k→w.heap.size≤k)(i:Nat):To I w o w'' (Ak o' w'.heap.size i):=
 ⟨h.fr.trans hf (fun k hk hs=>absurd (hS k hs) (by omega)),fun k hk=>by rw [Au (Atr hk h.size)];exact h.ow k hk⟩
def Ao4(M:Bp)(fl:Int)(w:World)(o:Nat→Nat)(n:Nat)(x:Bd×List Bv)(e:Ending)(w':World):Prop:=
 ∃A c,e= .returned (.slice A n c)∧Fg w' w.heap.size A n c (x.2.map vv)∧∃o',BM M fl w' o' x.1∧To B7 w o w' o'∧∀ad,A=some ad→o' ad.block=0
theorem Aka(M:Bp)(fl:Int)(b:Bd)(A:Option Addr)(n c:Nat)(l:List (List UInt8))(w:World)(o:Nat→Nat)(h:BM M fl w o b)(hI:Ey w A n l)(ho:∀ad,A=some ad→ad.block<w.heap.size∧o ad.block=0)(hn:n≤1000000)(hr:Ry b l)(hz:∀s∈l,Br s=false):
  Calls Tryz.prog 227 #[.func (.func 228) #[.pointer (some ⟨M.β,0,none⟩)] #[],.slice A n c] w (Ao4 M fl w o n (b.puts (bits fl) l)):=by
 obtain⟨f,hf⟩:∃f,bits fl=f:=⟨_,rfl⟩;have HF:=Hd hf;have HM:=Hd h;have HI:=Hd hI;have HOO:=Hd ho;have HR:=Hd hr;have HZ:=Hd hz;have HL:=Hd hI.1;rw [hf];clear h hI ho hr hz hf;go_enter Tryz.func227,Tryz.ntmps227;go_wp2_with fail;go_loopw [4,9] (fun s u wr=>∃k:Nat,k≤n∧u= Aa Ab k∧∃A1 c1,s= .slice A1 k c1∧Fg wr w.heap.size A1 k c1 ((b.puts f (l.take k)).2.map vv)∧∃o',BM M fl wr o' (b.puts f (l.take k)).1∧To B7 w o wr o'∧(∀ad,A1=some ad→o' ad.block=0)∧Ey wr A n l∧w.heap.size≤wr.heap.size) (fun _ u _=>n-(intOf u).toNat)
 case atStart=>exact⟨0,Atl _,rfl,none,0,rfl,Own.nil _ _,o,by rw [List.take_zero];exact HM.o,To.refl _ _ _,(fun ad h=>by cases h),HI.o,Ath _⟩
 case round=>
  obtain⟨k,hk,rfl,A1,c1,rfl,how,o',hm,ht,hoa,hi,hsz⟩:=hrel;have HOW:=Hd how;have HMR:=Hd hm;have HTR:=Hd ht;have HOA:=Hd hoa;have HSZ:=Hd hsz;have HIR:=Hd hi;clear how hm ht hoa hsz hi HM HI;by_cases hlt:k<n
  ·obtain⟨g,off,e,hk',hc⟩:=Gd HIR.o hlt;obtain⟨s,hs⟩:∃s,l[k]=s:=⟨_,rfl⟩;rw [hs] at hc;have hls:l[k]?=some s:=by rw [Ati hk',hs]
   have HRK:=Hd (HR.o.at_ f hls);have HZK:=Hd (HZ.o s (List.mem_of_getElem? hls));have HT:=Hd (show b.puts f (l.take (k+1))=(((b.puts f (l.take k)).1.put f s).1,(b.puts f (l.take k)).2++ [((b.puts f (l.take k)).1.put f s).2]) by
    rw [Atv hk',hs,Yf])
   have hk0:(0:Int)≤(k:Int):=by omega
   have hkn:(k:Int)<(n:Int):=by omega
   have hcp:=Xo M fl _ s wr o' HMR.o HRK.o HZK.o;rw [HF.o] at hcp;have HCP:=Hd hcp;have HOI:=Hd (show ∀ad,A=some ad→o' ad.block=0 from fun ad h=>(HTR.o.ow _ (HOO.o ad h).1).trans (HOO.o ad h).2);have HE1:=Hd e;rw [e];clear hs hls hk' hcp e;go_wp2_with fail;go_at_call 228;refine HCP.o.mono ?_;rintro x w2 ⟨a,ha,rfl,o2,hm2,ht2⟩;have HAA:=Hd ha;have HM2:=Hd hm2;have HT2:=Hd (HTR.o.trans ht2);have HO2:=Hd (HOW.o.fr ht2.fr (fun ad h=>by rw [HOA.o ad h];exact Bi));have HOA2:=Hd (show ∀ad,A1=some ad→o2 ad.block=0 from fun ad h=>(ht2.ow _ (HOW.o.addr ad h).2.2).trans (HOA.o ad h));have HI2:=Hd (HIR.o.fr ht2.fr (fun ad h=>by rw [HOI.o ad h];exact Bi));have HS2:=Hd (Nat.le_trans HSZ.o ht2.size);clear ha hm2 ht2 hc;have hA3:=(Below.refl w2.heap.size w2).alloc (Ath _) (.cells #[Aa Ab ((⟨4,1,a⟩:Bv).t:Int),Aa Ab ((⟨4,1,a⟩:Bv).w:Int),Aa Ac ((⟨4,1,a⟩:Bv).n:Int)] 210);have HM3:=Hd (HM2.o.fresh hA3 0);have HT3:=Hd (HT2.o.trans (To.fresh B7 hA3 o2 0));have HO3:=Hd (HO2.o.pure hA3);have HI3:=Hd (HI2.o.pure hA3);have HOA3:=Hd (show ∀ad,A1=some ad→Ak o2 w2.heap.size 0 ad.block=0 from fun ad h=>by rw [Au (HO2.o.addr ad h).2.2];exact HOA2.o ad h);have HOI3:=Hd (show ∀ad,A=some ad→ad.block<w.heap.size from fun ad h=>(HOO.o ad h).1);have HS3:=Hd (Nat.le_trans HS2.o hA3.size);have HLT:=Hd (K3 w2 ⟨4,1,a⟩);clear hA3;go_wp2_with (at_builtin;refine Dt _ rfl (.tmp 13) (.tmp 17) _ rfl 210 _ 3 24 Tryz.underlying185 Kj rfl (by omega) Gz Ku _ _ _ _ _ rfl HO3.o _ _ _ _ rfl HLT.o (by omega) HS3.o ?_;intro A4 c4 w4 hown4 hfr4 hat4);have HW3:=Hd (show ∀ad,A1=some ad→ad.block<(w2.alloc (.cells #[Aa Ab ((⟨4,1,a⟩:Bv).t:Int),Aa Ab ((⟨4,1,a⟩:Bv).w:Int),Aa Ac ((⟨4,1,a⟩:Bv).n:Int)] 210)).heap.size from fun ad h=>(HO3.o.addr ad h).2.2);have HSA:=Hd (show ∀j,(∃ad,A1=some ad∧j=ad.block)→w.heap.size≤j by rintro j ⟨ad,e,rfl⟩;exact(HO3.o.addr ad e).2.1);have HO4:=Hd hown4;have HM4:=Hd (HM3.o.to_ (To.of_fr (I:=fun i=>i=0) hfr4 (by rintro j _ ⟨ad,e,rfl⟩;exact HOA3.o ad e) 0) (fun i hi e=>by subst e;exact Bi hi));have HT4:=Hd (An8 HT3.o hfr4 HSA.o 0);have HI4:=Hd (show Ey w4 A n l from HI3.o.fr hfr4 (by rintro ad h ⟨ad',e',h'⟩;have h1:=HOI3.o ad h;have h2:=HSA.o ad.block ⟨ad',e',h'⟩;omega));have HOA4:=Hd (show ∀ad,A4=some ad→Ak (Ak o2 w2.heap.size 0) (w2.alloc (.cells #[Aa Ab ((⟨4,1,a⟩:Bv).t:Int),Aa Ab ((⟨4,1,a⟩:Bv).w:Int),Aa Ac ((⟨4,1,a⟩:Bv).n:Int)] 210)).heap.size 0 ad.block=0 from fun ad h=>by
    subst h;rcases hat4 with h1|h1
    ·cases hA1:A1 with
     |none=>rw [hA1] at h1;cases h1
     |some ad1=>
      rw [hA1] at h1;have h2:ad.block=ad1.block:=by simpa using h1
      rw [h2,Au (HW3.o ad1 hA1)];exact HOA3.o ad1 hA1
    ·have h2:ad.block=(w2.alloc (.cells #[Aa Ab ((⟨4,1,a⟩:Bv).t:Int),Aa Ab ((⟨4,1,a⟩:Bv).w:Int),Aa Ac ((⟨4,1,a⟩:Bv).n:Int)] 210)).heap.size:=by injection h1
     rw [h2];exact Am (Ath _))
   have HS4:=Hd (Nat.le_trans HS3.o hfr4.size);clear hown4 hfr4 hat4;go_wp2_with fail;go_roundw
   case rel=>
    refine⟨k+1,by omega,by go_num,A4,c4,rfl,?_,_,?_,HT4.o,HOA4.o,by rw [←HE1.o];exact HI4.o,HS4.o⟩
    ·rw [HT.o,HAA.o,List.map_append];exact HO4.o
    ·rw [HT.o];exact HM4.o
   case measure=>simp [intOf];omega
  ·obtain rfl:k=n:=by omega
   have HE:=Hd (show l.take k=l from Att (by have:=HL.o;omega));rw [HE.o] at HOW HMR;go_wp2_with fail;go_ret;exact⟨A1,c1,rfl,HOW.o,o',HMR.o,HTR.o,HOA.o⟩
theorem Xy{l:List UInt8}{ks:List (List UInt8)}{vs:List Bv}(h:De l ks vs)(hl:l.length+40+9*ks.length≤1048576):D1 vs l∧∀v∈vs,v.t=4:=by
 have hm:∀v∈vs,∃s,G3 l s v:=by
  intro v hv;obtain⟨i,hi,e⟩:=List.getElem_of_mem hv;have hk:i<ks.length:=by rw [←h.1];exact hi
  exact⟨ks[i],h.2 i ks[i] v (Ati hk) (by rw [Ati hi,e])⟩
 exact⟨⟨fun v hv=>by obtain⟨s,h1,_⟩:=hm v hv;rw [h1];decide,fun v hv=>by obtain⟨s,_,h2,_⟩:=hm v hv;rw [h2];decide,h.fit,by rw [h.1];exact hl⟩,
  fun v hv=>by obtain⟨s,h1,_⟩:=hm v hv;exact h1⟩
theorem Ac4(M:Bp)(fl:Int)(b:Bd)(A:Option Addr)(n c:Nat)(l:List (List UInt8))(bx bl:Nat)(w:World)(o:Nat→Nat)(h:BM M fl w o b)(hx:Af w bx 120 #[.pointer (some ⟨M.β,0,none⟩)])(hb:Af w bl 23 #[.slice A n c])(hox:o bx=0)(hob:o bl=0)
  (hI:Ey w A n l) (ho:∀ad,A=some ad→ad.block<w.heap.size∧o ad.block=0) (hn:n≤1000000) (hr:Ry b l) (hz:∀s∈l,Br s=false) (hg:Cr b) (hl:b.b.length+Bb l+40+9*l.length≤1048576):
  Calls Tryz.prog 226 #[.pointer (some ⟨bx,0,none⟩),.pointer (some ⟨bl,0,none⟩)] w (Cq M fl ((b.puts (bits fl) l).1.vec 14 true false (b.puts (bits fl) l).2) w o):=by
 obtain⟨f,hf⟩:∃f,bits fl=f:=⟨_,rfl⟩;have hms:=Aka M fl b A n c l w.drew o h.drew hI ho hn hr hz;rw [hf] at hms⊢;obtain⟨hst,hka,hse⟩:=Pu f l b hg;obtain⟨g1,g2,g3,g4⟩:=Yd f l b;obtain⟨hok,hel⟩:=Xy hka (by omega);obtain⟨x,hxx⟩:∃x,b.puts f l=x:=⟨_,rfl⟩;rw [hxx] at hms hok hel hse⊢;obtain⟨b',vs⟩:=x;have HMS:=Hd hms;have HOK:=Hd hok;have HEL:=Hd hel;have HSS:=Hd (show b'.s.length<65536 by rw [show b'.s=b.s from hse];exact hr.st);have HPV:=Hd (fun(A2:Option Addr) (c2:Nat)=>(show L6 M b'.b 4 0 A2 n c2 vs ((Bc 14 true false vs b'.b).1,(Bc 14 true false vs b'.b).2) from Sa (e:=4) hok (.inl ⟨rfl,.inr (.inr (.inl rfl))⟩) hel));have HX:=Hd hx;have HB:=Hd hb;have HOX:=Hd (And.intro hox hob);have x0:w.cell? ⟨bx,0,none⟩=some (.pointer (some ⟨M.β,0,none⟩)):=hx.cell 0;have x1:w.cell? ⟨bl,0,none⟩=some (.slice A n c):=hb.cell 0;clear h hx hb hox hob hI ho hr hz hg hl hms hok hel hse hst hka g1 g2 g3 g4 hf hxx;go_enter Tryz.func226,Tryz.ntmps226;go_wp2_with fail;go_region_held3 (fun w'=>w'.cell? ⟨bx,0,none⟩=some (.pointer (some ⟨M.β,0,none⟩))∧w'.cell? ⟨bl,0,none⟩=some (.slice A n c)) (first|with_reducible exact⟨x0,x1⟩|with_reducible exact⟨Ae x0,Ae x1⟩|with_reducible exact⟨y0,y1⟩|with_reducible exact⟨z0,z1⟩) (first|(go_at_call 227;(with_reducible refine HMS.o.mono ?_);rintro e w2 ⟨A2,c2,rfl,hO2,o2,hM2,hT2,hA2⟩;have hT2':=hT2.from_drew;have hX2:=HX.o.to_ hT2' (by rw [HOX.o.1];exact Bi);have hB2:=HB.o.to_ hT2' (by rw [HOX.o.2];exact Bi);have y0:w2.cell? ⟨bx,0,none⟩=some (.pointer (some ⟨M.β,0,none⟩)):=hX2.cell 0;have y1:w2.cell? ⟨bl,0,none⟩=some (.slice A n c):=hB2.cell 0;have HX2:=Hd hX2;have HB2:=Hd hB2;have HOX2:=Hd (And.intro ((hT2'.ow _ HX.o.lt).trans HOX.o.1) ((hT2'.ow _ HB.o.lt).trans HOX.o.2));have HM2:=Hd hM2;have HT2:=Hd hT2';have HO2:=Hd hO2;have HA2:=Hd hA2;clear hT2 hT2' hX2 hB2 hO2 hM2 hA2)|(go_at_call 218;(with_reducible refine(H8 M fl b' 4 0 A2 n c2 vs (Bc 14 true false vs b'.b).1 (Bc 14 true false vs b'.b).2 _ o2 HM2.o HO2.o.is (fun ad e=>⟨(HO2.o.addr ad e).2.2,HA2.o ad e⟩) HSS.o (HPV.o A2 c2)).mono ?_);rintro e w3 ⟨rfl,o3,hM3,hT3⟩;have z0:w3.cell? ⟨bx,0,none⟩=some (.pointer (some ⟨M.β,0,none⟩)):=(HX2.o.to_ hT3 (by rw [HOX2.o.1];exact Bi)).cell 0;have z1:w3.cell? ⟨bl,0,none⟩=some (.slice A n c):=(HB2.o.to_ hT3 (by rw [HOX2.o.2];exact Bi)).cell 0;have HM3:=Hd hM3;have HT3:=Hd (HT2.o.trans hT3);clear hM3 hT3));go_wp2_with fail;go_end0;exact⟨rfl,o3,HM3.o,HT3.o⟩
theorem Af6(M:Bp)(fl:Int)(b:Bd)(A:Option Addr)(n c:Nat)(l:List (List UInt8))(w:World)(o:Nat→Nat)(h:BM M fl w o b)
  (hI:Ey w A n l) (ho:∀ad,A=some ad→ad.block<w.heap.size∧o ad.block=0) (hn:n≤1000000) (hr:Ry b l) (hz:∀s∈l,Br s=false) (hg:Cr b) (hl:b.b.length+Bb l+40+9*l.length≤1048576):
  Calls Tryz.prog 143 #[.pointer (some ⟨M.β,0,none⟩),.slice A n c] w (Cq M fl ((b.puts (bits fl) l).1.vec 14 true false (b.puts (bits fl) l).2) w o):=by
 have hB:=Ba w (.cells #[.pointer (some ⟨M.β,0,none⟩)] 120) (.cells #[.slice A n c] 23);have HB:=Hd hB;have HM:=Hd (h.fresh hB 0);have HF:=Hd (Ac4 M fl b A n c l w.heap.size (w.heap.size+1) _ (Ak o w.heap.size 0) (h.fresh hB 0) ((Af.new w 120 #[.pointer (some ⟨M.β,0,none⟩)]).alloc _) (B5 w _ 23 #[.slice A n c]) (Am (by omega)) (Am (by omega))
  (hI.pure hB) (fun ad e=>⟨by have h1:=(ho ad e).1;have h2:=hB.size;omega,by rw [Au (ho ad e).1];exact(ho ad e).2⟩) hn hr hz hg hl)
 clear h hI ho hr hz hg hl hB;go_enter Tryz.func143,Tryz.ntmps143;go_wp2_with fail;go_at_call 225;refine(Dq M fl 226 _ _ (Ak o w.heap.size 0) b.vals _ HM.o.head Tryz.call226 (HF.o.mono fun e w' h=>⟨h.1,h⟩)).mono ?_;rintro e w' hR;obtain rfl:=hR.1;have HR:=Hd (hR.from_fresh HB.o);clear hR;go_wp2;go_end0;exact HR.o
theorem Xh(M:Bp)(fl:Int)(b:Bd)(k:Nat)(w:World)(o:Nat→Nat)(h:BM M fl w o b)(hk:b.s.length=k):Calls Tryz.prog 230 #[.pointer (some ⟨M.β,0,none⟩)] w fun e w'=>e= .returned (Aa Ab (k:Int))∧w=w':=by
 have HM:=Hd h;have HK:=Hd hk;obtain⟨c0,c1,c2,c9,_⟩:=h.head.cells;clear h hk;go_enter Tryz.func230,Tryz.ntmps230;go_wp2_with (go_at_call 155;refine(O3 M.β _ (by assumption)).mono ?_;rintro e w' ⟨rfl,rfl⟩);go_at_call 326;refine(Aqj M.sb k b.s _ o HM.o.stk HK.o).mono ?_;rintro e w' ⟨rfl,rfl⟩;go_wp2_with fail;go_ret;exact⟨rfl,rfl⟩
theorem Aiv(M:Bp)(fl:Int)(b:Bd)(k:Nat)(w:World)(o:Nat→Nat)(h:BM M fl w o b)(hk:b.s.length=k):Calls Tryz.prog 148 #[.pointer (some ⟨M.β,0,none⟩)] w fun e w'=>e= .returned (Aa Ab (k:Int))∧w=w':=by
 go_enter Tryz.func148,Tryz.ntmps148;go_wp2_with fail;go_at_call 230;refine(Xh M fl b k _ o h hk).mono ?_;rintro e w' ⟨rfl,rfl⟩;go_wp2_with fail;go_ret;exact⟨rfl,rfl⟩
theorem Ail(M:Bp)(fl:Int)(b:Bd)(k:Nat)(w:World)(o:Nat→Nat)(h:BM M fl w o b)(hk:b.s.length=k):Calls Tryz.prog 150 #[.pointer (some ⟨M.β,0,none⟩)] w fun e w'=>e= .returned (Aa Ab (k:Int))∧w=w':=by
 go_enter Tryz.func150,Tryz.ntmps150;go_wp2_with fail;go_at_call 230;refine(Xh M fl b k _ o h hk).mono ?_;rintro e w' ⟨rfl,rfl⟩;go_wp2_with fail;go_ret;exact⟨rfl,rfl⟩
def Asb(w:World)(l:List Bv)(e:Ending)(w':World):Prop:=∃A c,e= .returned (.slice A l.length c)∧Fg w' w.heap.size A l.length c (l.map vv)∧Below w.heap.size w w'
theorem Uf(M:Bp)(fl:Int)(b:Bd)(k:Nat)(w:World)(o:Nat→Nat)(h:BM M fl w o b)(hk:k≤b.s.length):Calls Tryz.prog 232 #[.pointer (some ⟨M.β,0,none⟩),Aa Ab (k:Int)] w (Asb w (b.s.drop k)):=by
 have HM:=Hd h;have HK:=Hd hk;obtain⟨c0,c1,c2,c9,_⟩:=h.head.cells;clear h hk;go_enter Tryz.func232,Tryz.ntmps232;go_wp2_with fail;go_at_call 156;refine(Ab5 M.sb k b.s _ o HM.o.stk HK.o).mono ?_;rintro e w1 ⟨A,n,c,rfl,hO,hb⟩;have hn:n=(b.s.drop k).length:=by have:=hO.1;simpa using this.symm
 have HN:=Hd hn;have HO:=Hd hO;have HB:=Hd hb;clear hn hO hb c0 c1 c2 c9;go_wp2_with fail;go_ret;obtain rfl:=HN.o;exact⟨A,c,rfl,HO.o,HB.o⟩
theorem Aam(M:Bp)(fl:Int)(b:Bd)(k bx bk:Nat)(w:World)(o:Nat→Nat)(h:BM M fl w o b)(hx:Af w bx 120 #[.pointer (some ⟨M.β,0,none⟩)])(hb:Af w bk 3 #[Aa Ab (k:Int)])(hox:o bx=0)(hk:k≤b.s.length)(hs:b.s.length≤65536)(hks:k<65536)(hok:D1 (b.s.drop k) b.b):
  Calls Tryz.prog 231 #[.pointer (some ⟨bx,0,none⟩),.pointer (some ⟨bk,0,none⟩)] w (Cq M fl (b.endVec k) w o):=by
 have HM:=Hd h;have HK:=Hd hk;have HX:=Hd hx;have HOX:=Hd hox;have HOK:=Hd hok;have HSB:=Hd hs;obtain⟨m,hm⟩:∃m,(b.s.drop k).length=m:=⟨_,rfl⟩;have HMM:=Hd hm;have hmk:m≤b.s.length∧b.s.length-m=k:=by rw [List.length_drop] at hm;omega
 have HMK:=Hd hmk;have HST:=Hd (show(b.s.take k).length<65536 by rw [List.length_take];omega);have x0:w.cell? ⟨bx,0,none⟩=some (.pointer (some ⟨M.β,0,none⟩)):=hx.cell 0;have x1:w.cell? ⟨bk,0,none⟩=some (Aa Ab (k:Int)):=hb.cell 0;clear h hx hb hox hok hm hmk;go_enter Tryz.func231,Tryz.ntmps231;go_wp2_with fail;go_at_call 232;refine(Uf M fl b k _ o HM.o HK.o).mono ?_;rintro e w1 ⟨A,c,rfl,hO,hb⟩;rw [HMM.o] at hO⊢;have HO:=Hd hO;have HA1:=Hd (show ∀ad,A=some ad→ad.block<w1.heap.size∧Ak o w.heap.size 0 ad.block=0 from fun ad e=>⟨(hO.addr ad e).2.2,Am (hO.addr ad e).2.1⟩);have HM1:=Hd (HM.o.fresh hb 0);have HX1:=Hd (HX.o.pure hb);have HT1:=Hd (To.fresh B7 hb o 0);have HOX1:=Hd (show Ak o w.heap.size 0 bx=0 by rw [Au HX.o.lt];exact HOX.o);clear hO hb x0 x1;have x0:w1.cell? ⟨bx,0,none⟩=some (.pointer (some ⟨M.β,0,none⟩)):=HX1.o.cell 0;obtain⟨c0,c1,c2,c9,_⟩:=HM1.o.head.cells;go_wp2_with fail;go_at_call 233;refine(Ae7 M.sb m b.s _ _ HM1.o.stk HMK.o.1 (by have:=HSB.o;have:=HMK.o.1;omega)).mono ?_;rintro e w2 ⟨⟨A2,n2,c2',rfl⟩,o2,hS2,hT2⟩;rw [HMK.o.2] at hS2;have HM2:=Hd (HM1.o.stk_ hT2 hS2);have HT2:=Hd (HT1.o.trans (hT2.mono fun _ h=>Afx h));have HX2:=Hd (HX1.o.to_ hT2 (by rw [HOX1.o];omega));have HO2:=Hd (HO.o.fr hT2.fr (fun ad e=>by rw [(HA1.o ad e).2];omega));have HA2:=Hd (show ∀ad,A=some ad→ad.block<w2.heap.size∧o2 ad.block=0 from fun ad e=>⟨Atr (HA1.o ad e).1 hT2.size,(hT2.ow _ (HA1.o ad e).1).trans (HA1.o ad e).2⟩);clear hS2 hT2 x0 c0 c1 c2 c9;have x0:w2.cell? ⟨bx,0,none⟩=some (.pointer (some ⟨M.β,0,none⟩)):=HX2.o.cell 0;have HPV:=Hd (show L6 M b.b (-1) 0 A m c (b.s.drop k) ((Bc 10 true true (b.s.drop k) b.b).1,(Bc 10 true true (b.s.drop k) b.b).2) from Aqa HOK.o);go_wp2_with fail;go_at_call 218;refine(H8 M fl { b with s:=b.s.take k} (-1) 0 A m c (b.s.drop k) _ _ _ o2 HM2.o HO2.o.is HA2.o HST.o HPV.o).mono ?_;rintro e w3 ⟨rfl,o3,hM3,hT3⟩;have HM3:=Hd hM3;have HT3:=Hd (HT2.o.trans hT3);clear hM3 hT3 x0;go_wp2_with fail;go_end0;exact⟨rfl,o3,HM3.o,HT3.o⟩
theorem Adi(M:Bp)(fl:Int)(b:Bd)(k:Nat)(w:World)(o:Nat→Nat)(h:BM M fl w o b)(hk:k≤b.s.length)(hs:b.s.length≤65536)(hks:k<65536)(hok:D1 (b.s.drop k) b.b):
  Calls Tryz.prog 149 #[.pointer (some ⟨M.β,0,none⟩),Aa Ab (k:Int)] w (Cq M fl (b.endVec k) w o):=by
 have hB:=Ba w (.cells #[.pointer (some ⟨M.β,0,none⟩)] 120) (.cells #[Aa Ab (k:Int)] 3);have HB:=Hd hB;have HM:=Hd (h.fresh hB 0);have HF:=Hd (Aam M fl b k w.heap.size (w.heap.size+1) _ (Ak o w.heap.size 0) (h.fresh hB 0) ((Af.new w 120 #[.pointer (some ⟨M.β,0,none⟩)]).alloc _) (B5 w _ 3 #[Aa Ab (k:Int)]) (Am (by omega)) hk hs hks hok);clear h hk hs hks hok hB;go_enter Tryz.func149,Tryz.ntmps149;go_wp2_with fail;go_at_call 225;refine(Dq M fl 231 _ _ (Ak o w.heap.size 0) b.vals _ HM.o.head Tryz.call231 (HF.o.mono fun e w' h=>⟨h.1,h⟩)).mono ?_;rintro e w' hR;obtain rfl:=hR.1;have HR:=Hd (hR.from_fresh HB.o);clear hR;go_wp2;go_end0;exact HR.o
def Ahy(names:List (Nat×List UInt8))(ns:List (List UInt8))(l:List Bv):Prop:=
 l.length=2*ns.length∧∀(i:Nat) s v,ns[i]?=some s→l[2*i]?=some v→v.t=4∧names.find? (fun x=>x.1==v.n)=some (v.n,s)∧v.n<18446744073709551616
theorem Ahf{v:Value}{s:List UInt8}{ps:List MemPlace}(h:plainElem (H:=Unit) Tryz.prog 9 v=some (.lit (.string s),ps)):v= .string ⟨s.toArray⟩:=by
 unfold plainElem at h;rw [Tryz.underlying9] at h;cases v <;>simp at h
 next b=>
  obtain⟨_,h⟩:=h;obtain⟨b⟩:=b;obtain⟨h,_⟩:=h;simp at h;subst h;rfl
theorem Lj.look{w:World}{o:Nat→Nat}{p a:Nat}{m:List (Nat×List UInt8)}{s:List UInt8}(h:Lj w o p m)(ha:a<18446744073709551616)(hf:m.find? (fun x=>x.1==a)=some (a,s)):
  (Instr.lookup 184 (.map (some p)) (Aa Ac (a:Int)) false).run Tryz.prog w= .ok (.string ⟨s.toArray⟩) w:=by
 obtain⟨_,n,D,hm,_,hat⟩:=h;have hz:(zeroValue 9).run Tryz.prog w= .ok (.string ⟨#[]⟩) w:=by kernel_rfl
 obtain⟨v,ps,hrun,hv⟩:=hm.lookup Oe Tryz.underlying184 hz (show plainElem Tryz.prog 9 (.string ⟨#[]⟩)=some (.lit (.string []),[]) by kernel_rfl) (Maps.keyOf_int_mk Tryz.underlying22 (Vt a ha));rw [hat a s hf] at hv;rw [Ahf hv] at hrun;exact hrun
def Aq3(w:World)(ns:List (List UInt8))(e:Ending)(w':World):Prop:=∃A c,e= .returned (.slice A ns.length c)∧Kz w' w.heap.size A ns.length c ns∧Below w.heap.size w w'
theorem Gf.map_cell{M:Bp}{fl:Int}{w:World}{o:Nat→Nat}{vals:List Bv}(h:Gf M fl w o vals):w.cell? ⟨M.β,7,none⟩=some (.map (some M.mb)):=by
 obtain⟨A,n,c,hb,_⟩:=h;exact hb.cell 7
theorem Ag2(M:Bp)(fl:Int)(b:Bd)(A:Option Addr)(n c:Nat)(l:List Bv)(ns:List (List UInt8))(w:World)(o:Nat→Nat)(h:BM M fl w o b)(hI:D9 w A n (l.map vv))(hn:n≤1000000)(hv:Ahy b.names ns l):
  Calls Tryz.prog 237 #[.pointer (some ⟨M.β,0,none⟩),.slice A n c] w (Aq3 w ns):=by
 have HM:=Hd h;have HI:=Hd hI;have HV:=Hd hv.2;have HL:=Hd (show l.length=n by have:=hI.1;simpa using this);obtain⟨m,hm⟩:∃m,ns.length=m:=⟨_,rfl⟩;have HML:=Hd hm;have hnm:n=2*m:=by have:=hv.1;have:=HL.o;omega
 subst hnm;have hlen:((2*m:Nat):Int) % 2=0:=by omega
 clear h hI hv hm;go_enter Tryz.func237,Tryz.ntmps237;go_wp2_with fail;go_loopw [4,9] (fun s u wr=>∃k:Nat,k≤2*m∧u= Aa Ab k∧∃A1 c1,s= .slice A1 ((k+1)/2) c1∧Kz wr w.heap.size A1 ((k+1)/2) c1 (ns.take ((k+1)/2))∧Below w.heap.size w wr) (fun _ u _=>2*m-(intOf u).toNat)
 case atStart=>exact⟨0,Atl _,rfl,none,0,rfl,Own.nil _ _,Below.refl _ _⟩
 case round=>
  obtain⟨k,hk,rfl,A1,c1,rfl,how,hbr⟩:=hrel;have HOW:=Hd how;have HBR:=Hd hbr;have hIr:=HI.o.pure hbr;have HMR:=Hd (HM.o.pure hbr);clear how hbr;by_cases hlt:k<2*m
  ·obtain⟨g,off,v,e,hv,v0,v1,v2⟩:=Gt hIr hlt;have hk0:(0:Int)≤(k:Int):=by omega
   have hkn:(k:Int)<((2*m:Nat):Int):=by omega
   rw [e];rcases Nat.mod_two_eq_zero_or_one k with hp|hp
   ·obtain⟨j,rfl⟩:∃j,k=2*j:=⟨k/2,by omega⟩;have hj:(2*j+1)/2=j:=by omega
    have hj2:(2*j+1+1)/2=j+1:=by omega
    have hjm:j<ns.length:=by have:=HML.o;omega
    obtain⟨s,hs⟩:∃s,ns[j]?=some s:=⟨_,Ati hjm⟩;obtain⟨ht,hf,ha⟩:=HV.o j s v hs hv;have hmod:(((2*j:Nat)):Int) % 2=0:=by omega
    have HT:=Hd (show ns.take (j+1)=ns.take j++ [s] by
     obtain⟨q1,q2⟩:=List.getElem?_eq_some_iff.1 hs;rw [Atv q1,q2])
    have hvt:(v.t:Int)=4:=by omega
    have hAl:=(Below.refl wr.heap.size wr).alloc (Ath _) (.cells #[Aa Ab 4,Aa Ab (v.w:Int),Aa Ac (v.n:Int)] 210);have HMA:=Hd (HMR.o.pure hAl);have hlk:(Instr.lookup 184 (.map (some M.mb)) (Aa Ac (v.n:Int)) false).run Tryz.prog (wr.alloc (.cells #[Aa Ab 4,Aa Ab (v.w:Int),Aa Ac (v.n:Int)] 210)).drew= .ok (.string ⟨s.toArray⟩) (wr.alloc (.cells #[Aa Ab 4,Aa Ab (v.w:Int),Aa Ac (v.n:Int)] 210)).drew:=HMA.o.drew.names.look ha hf;have cm:(wr.alloc (.cells #[Aa Ab 4,Aa Ab (v.w:Int),Aa Ac (v.n:Int)] 210)).drew.cell? ⟨M.β,7,none⟩=some (.map (some M.mb)):=HMA.o.drew.head.map_cell;have hob:Below wr.heap.size wr ((wr.alloc (.cells #[Aa Ab 4,Aa Ab (v.w:Int),Aa Ac (v.n:Int)] 210)).alloc (.cells #[.string ⟨s.toArray⟩] 9)).drew:=(hAl.alloc (by simp) _).drew;have HBD:=Hd (Ad HBR.o hob);rw [hj] at HOW⊢;have HOA:=Hd (HOW.o.pure hob);have HIS:=Hd (show Ey ((wr.alloc (.cells #[Aa Ab 4,Aa Ab (v.w:Int),Aa Ac (v.n:Int)] 210)).alloc (.cells #[.string ⟨s.toArray⟩] 9)).drew (some ⟨wr.heap.size+1,0,none⟩) 1 [s] by
     have h:=Q5 (f:=Jc) (wr.alloc (.cells #[Aa Ab 4,Aa Ab (v.w:Int),Aa Ac (v.n:Int)] 210)) 9 s (.string ⟨s.toArray⟩) rfl;rw [Jq] at h;exact h.pure ((Below.refl _ _).drew))
    have HJ2:=Hd hj2;clear hIr hv e hj hj2 hs hf ht hAl hob;go_wp2_with fail;go_region_law (refine Rn rfl (.tmp 35) (.tmp 44) 23 rfl (.string ⟨#[]⟩) 16 (by kernel_rfl) (by kernel_rfl) rfl (by decide) Dp Ot w.heap.size A1 j c1 (ns.take j) rfl HOA.o _ 1 1 [s] rfl HIS.o (by omega) HBD.o.size ?_;intro A2 c2 w2 hown2 hfr2 hat2;have HO4:=Hd hown2;have HB4:=Hd (Bs HBD.o hfr2 (by rintro j ⟨ad,e,rfl⟩;exact(HOA.o.addr ad e).2.1));clear hown2 hfr2 hat2)
    all_goals
     try go_wp2_with fail
     go_roundw
     case rel=>exact⟨2*j+1,by omega,by go_num,A2,c2,by rw [HJ2.o],by rw [HJ2.o,HT.o];exact HO4.o,HB4.o⟩
     case measure=>simp [intOf];omega
   ·have hmod:(k:Int) % 2=1:=by omega
    have HJ2:=Hd (show(k+1+1)/2=(k+1)/2 by omega);have HBA:=Hd (HBR.o.alloc HBR.o.size (.cells #[Aa Ab (v.t:Int),Aa Ab (v.w:Int),Aa Ac (v.n:Int)] 210));have HOA:=Hd (HOW.o.pure ((Below.refl wr.heap.size wr).alloc (Ath _) (.cells #[Aa Ab (v.t:Int),Aa Ab (v.w:Int),Aa Ac (v.n:Int)] 210)));clear hIr hv e;go_wp2_with fail;go_roundw
    case rel=>exact⟨k+1,by omega,by go_num,A1,c1,by rw [HJ2.o],by rw [HJ2.o];exact HOA.o,HBA.o⟩
    case measure=>simp [intOf];omega
  ·obtain rfl:k=2*m:=by omega
   have hm2:(2*m+1)/2=m:=by omega
   have HE:=Hd (show ns.take m=ns from Att (by have:=HML.o;omega));rw [hm2] at HOW⊢;rw [HE.o] at HOW;clear hIr hm2;go_wp2_with fail;go_ret;obtain rfl:=HML.o;exact⟨A1,c1,rfl,HOW.o,HBR.o⟩
end Go.Proofs.YtgbjodnegkbfoaaGreat
namespace Go.Proofs.YtgbjodnegkbfoaaGreat
open Go.Shelf Go.RowKit Go.Acc
def Su:Go.Shelf.Ren:=⟨fun|6=>212|14=>314|15=>191|20=>367|21=>368|22=>369|23=>370|24=>371|25=>372|26=>373|27=>374|28=>291|29=>101|46=>397|47=>353|48=>354|49=>398|50=>399|57=>407|n=>n,fun|22=>151|24=>3|25=>52|3=>3|39=>146|0=>0|53=>335|55=>22|4=>4|46=>329|45=>328|50=>118|5=>5|9=>9|66=>368|70=>372|76=>406|77=>336|n=>n,fun|n=>n⟩
theorem Ae6:Go.Proofs.SlLaysF.n6 Tryz.prog Su:={
 mixed:=by kernel_rfl
 f6:=⟨Tryz.f212.name,by decide,Tryz.func212.trans (congrArg some (by kernel_rfl))⟩
 f14:=⟨Tryz.f314.name,by decide,Tryz.func314.trans (congrArg some (by kernel_rfl))⟩
 f15:=Tryz.func191.trans (congrArg some (by kernel_rfl))
 f20:=⟨Tryz.f367.name,by decide,Tryz.func367.trans (congrArg some (by kernel_rfl))⟩
 f21:=⟨Tryz.f368.name,by decide,Tryz.func368.trans (congrArg some (by kernel_rfl))⟩
 f22:=⟨Tryz.f369.name,by decide,Tryz.func369.trans (congrArg some (by kernel_rfl))⟩
 f23:=⟨Tryz.f370.name,by decide,Tryz.func370.trans (congrArg some (by kernel_rfl))⟩
 f24:=⟨Tryz.f371.name,by decide,Tryz.func371.trans (congrArg some (by kernel_rfl))⟩
 f25:=⟨Tryz.f372.name,by decide,Tryz.func372.trans (congrArg some (by kernel_rfl))⟩
 f26:=⟨Tryz.f373.name,by decide,Tryz.func373.trans (congrArg some (by kernel_rfl))⟩
 f27:=⟨Tryz.f374.name,by decide,Tryz.func374.trans (congrArg some (by kernel_rfl))⟩
 f28:=Tryz.func291.trans (congrArg some (by kernel_rfl))
 f29:=Tryz.func101.trans (congrArg some (by kernel_rfl))
 f46:=⟨Tryz.f397.name,by decide,Tryz.func397.trans (congrArg some (by kernel_rfl))⟩
 f47:=Tryz.func353.trans (congrArg some (by kernel_rfl))
 f48:=Tryz.func354.trans (congrArg some (by kernel_rfl))
 f49:=⟨Tryz.f398.name,by decide,Tryz.func398.trans (congrArg some (by kernel_rfl))⟩
 f50:=⟨Tryz.f399.name,by decide,Tryz.func399.trans (congrArg some (by kernel_rfl))⟩
 f57:=⟨Tryz.f407.name,by decide,Tryz.func407.trans (congrArg some (by kernel_rfl))⟩
 t0:=Tryz.underlying0
 a0:=Tryz.isAgg0
 z0:=Tryz.sizeOf0
 v0:=Tryz.zeroValue0
 t3:=Tryz.underlying3
 a3:=Tryz.isAgg3
 z3:=Tryz.sizeOf3
 v3:=Tryz.zeroValue3
 t4:=Tryz.underlying4
 a4:=Tryz.isAgg4
 z4:=Tryz.sizeOf4
 v4:=Tryz.zeroValue4
 t5:=Tryz.underlying5
 a5:=Tryz.isAgg5
 z5:=Tryz.sizeOf5
 v5:=Tryz.zeroValue5
 t9:=Tryz.underlying9
 a9:=Tryz.isAgg9
 z9:=Tryz.sizeOf9
 v9:=Tryz.zeroValue9
 t22:=Tryz.underlying151
 a22:=Tryz.isAgg151
 z22:=Tryz.sizeOf151
 v22:=Tryz.zeroValue151
 a24:=Tryz.isAgg3
 z24:=Tryz.sizeOf3
 t25:=Tryz.underlying52
 a25:=Tryz.isAgg52
 z25:=Tryz.sizeOf52
 v25:=Tryz.zeroValue52
 t39:=Tryz.underlying146
 a39:=Tryz.isAgg146
 z39:=Tryz.sizeOf146
 v39:=Tryz.zeroValue146
 t45:=Tryz.underlying328
 a45:=Tryz.isAgg328
 z45:=Tryz.sizeOf328
 v45:=Tryz.zeroValue328
 t46:=Tryz.underlying329
 a46:=Tryz.isAgg329
 z46:=Tryz.sizeOf329
 v46:=Tryz.zeroValue329
 t50:=Tryz.underlying118
 a50:=Tryz.isAgg118
 z50:=Tryz.sizeOf118
 v50:=Tryz.zeroValue118
 t53:=Tryz.underlying335
 a53:=Tryz.isAgg335
 z53:=Tryz.sizeOf335
 v53:=Tryz.zeroValue335
 t55:=Tryz.underlying22
 a55:=Tryz.isAgg22
 z55:=Tryz.sizeOf22
 v55:=Tryz.zeroValue22
 t66:=Tryz.underlying368
 a66:=Tryz.isAgg368
 z66:=Tryz.sizeOf368
 v66:=Tryz.zeroValue368
 t70:=Tryz.underlying372
 a70:=Tryz.isAgg372
 z70:=Tryz.sizeOf372
 v70:=Tryz.zeroValue372
 t76:=Tryz.underlying406
 a76:=Tryz.isAgg406
 z76:=Tryz.sizeOf406
 v76:=Tryz.zeroValue406
 t77:=Tryz.underlying336
 a77:=Tryz.isAgg336
 z77:=Tryz.sizeOf336
 v77:=Tryz.zeroValue336}
def Anq:Go.Shelf.Ren:=⟨fun|106=>214|213=>315|265=>375|n=>n,fun|3=>3|9=>9|n=>n,fun|n=>n⟩
theorem As8:Go.Proofs.Lays.n106 Tryz.prog Anq:={
 mixed:=by kernel_rfl
 f106:=Tryz.func214.trans (congrArg some (by kernel_rfl))
 f213:=Tryz.func315.trans (congrArg some (by kernel_rfl))
 f265:=Tryz.func375.trans (congrArg some (by kernel_rfl))
 t3:=Tryz.underlying3
 a3:=Tryz.isAgg3
 z3:=Tryz.sizeOf3
 v3:=Tryz.zeroValue3
 t9:=Tryz.underlying9
 a9:=Tryz.isAgg9
 z9:=Tryz.sizeOf9
 v9:=Tryz.zeroValue9}
theorem Akx(a b:List UInt8)(w:World):Calls Tryz.prog 214 #[.string ⟨a.toArray⟩,.string ⟨b.toArray⟩] w fun e w'=>e= .returned (Aa Ab (Go.Lib.compareBytes a b))∧w=w':=
 (Any.strings_Compare As8 ⟨a.toArray⟩ ⟨b.toArray⟩ w).mono fun _ _ h=>⟨h.1,h.2.symm⟩
end Go.Proofs.YtgbjodnegkbfoaaGreat
namespace Go.Acc
open Go.RowKit Go.Sort Go.Proofs
section
variable {α:Type} [Inhabited α] {f:α→List Value} {sz:Nat} {w:World} {B g n c:Nat} {e:TypeId} {l:List α}
theorem Ps{v:Value}{xs:List Value}(h:w.ownsRow B e sz v n xs)(hv:v= .slice (some ⟨g,0,none⟩) n c):∃cur,Af w g e cur∧cur.size=c*sz∧cur.toList.take (n*sz)=xs∧n≤c∧c≤maxLen∧B≤g:=by
 subst hv;rcases h.2 with⟨hv,_⟩|⟨g',cap,cur,hv,hb,hg,hnc,hcm,hcs,htake⟩
 ·cases hv
 ·injection hv with h1 h2 h3
  injection h1 with h1
  injection h1 with h1
  subst h1 h3;exact⟨cur,hg,hcs,htake,hnc,hcm,hb⟩
theorem Aat(hf:∀x,(f x).length=sz)(hz:0<sz)(d:Array α)(j:Nat)(hj:j<d.size*sz):(d.toList.flatMap f)[j]?=some (flatK f sz d)[j]! :=by
 have hd:j/sz<d.toList.length:=by rw [Array.length_toList];exact Nat.div_lt_of_lt_mul (by rw [Nat.mul_comm];exact hj)
 have hm:j % sz<sz:=Nat.mod_lt _ hz;have h1:=G7 hf d.toList (j/sz) (j % sz) hd hm;rw [show j/sz*sz+j % sz=j by rw [Nat.mul_comm];exact Nat.div_add_mod j sz] at h1;rw [h1,get_flatK _ _ _ _ hj];have e1:d[j/sz]! =d.toList[j/sz]:=by
  rw [getElem!_pos d _ (by rw [←Array.length_toList];exact hd)];rfl
 rw [e1,getElem!_pos _ _ (by rw [hf];exact hm)];exact Ati _
theorem own_holds(hf:∀x,(f x).length=sz)(hz:0<sz)(h:Own f sz e w B (some ⟨g,0,none⟩) n c l):HoldsK f sz w g 0 l.toArray:=by
 intro j hj;rw [size_flatK] at hj;have h1:=Aat hf hz l.toArray j hj;have h2:=Rd.of_own h.2 j _ h1;obtain⟨b,off,e1,h3⟩:=h2;injection e1 with e1
 injection e1 with e1 e2
 subst e1 e2;refine⟨h3,?_⟩;rw [Nat.zero_add];exact Kn h.2 j
theorem Ag6(hf:∀x,(f x).length=sz)(hz:0<sz)(h:Own f sz e w B (some ⟨g,0,none⟩) n c l)(d':Array α)(hd:d'.size=n)(m:Nat)(os:Array Obj):
  Own f sz e (sortWorldK f sz w g 0 m d' os) B (some ⟨g,0,none⟩) n c d'.toList∧Fr (fun k=>k=g) w (sortWorldK f sz w g 0 m d' os):=by
 obtain⟨cur,hK,hsz,htake,hnc,hcm,hb⟩:=Ps h.2 rfl;have hlt:=hK.lt;have hblk:(sortWorldK f sz w g 0 m d' os).heap[g]?=some (.cells (putCells id 0 (flatK f sz d') cur) e (0,0)):=by
  unfold sortWorldK putRowK putRow mapBlock;rw [heap_grow_old _ _ (by simpa [ahead] using hlt)];have hK':w.heap[g]?=some (.cells cur e (0,0)):=hK;simp [Array.getElem?_modify,hK',onCells]
 refine⟨⟨by simp [hd],?_,.inr ⟨g,c,_,rfl,hb,hblk,hnc,hcm,?_,?_⟩⟩,⟨rfl,rfl,rfl,?_,?_⟩⟩
 ·rw [Bj hf,Array.length_toList,hd]
 ·unfold putCells;rw [Array.size_mapIdx];exact hsz
 ·have hncs:n*sz≤cur.size:=by rw [hsz];exact Nat.mul_le_mul_right _ hnc
  apply List.ext_getElem?;intro j;rw [List.getElem?_take];by_cases hj:j<n*sz
  ·rw [if_pos hj,Aat hf hz d' j (by rw [hd];exact hj)];have hjc:j<cur.size:=by omega
   unfold putCells;simp [size_flatK,hd,hj,hjc]
  ·rw [if_neg hj,List.getElem?_eq_none];rw [Bj hf,Array.length_toList,hd];omega
 ·unfold sortWorldK;rw [size_grow];simp [putRowK,putRow,mapBlock]
 ·intro k hk hne;unfold sortWorldK putRowK putRow mapBlock;rw [heap_grow_old _ _ (by simpa [ahead] using hk)];rw [Array.getElem?_modify,if_neg (fun e=>hne e.symm)];rfl
end
end Go.Acc
namespace Go.Proofs.YtgbjodnegkbfoaaGreat
open Go.RowKit Go.Acc Go.Sort
theorem Af8:∀(a b:List UInt8),(a<b∧Lib.compareBytes a b= -1)∨(a=b∧Lib.compareBytes a b=0)∨(b<a∧Lib.compareBytes a b=1)
 | [],[]=> .inr (.inl ⟨rfl,rfl⟩)
 | [],_::_=> .inl ⟨List.nil_lt_cons _ _,rfl⟩
 |_::_,[]=> .inr (.inr ⟨List.nil_lt_cons _ _,rfl⟩)
 |x::a,y::b=>by
  unfold Lib.compareBytes;by_cases h1:x<y
  ·exact .inl ⟨List.cons_lt_cons_iff.2 (.inl h1),by rw [if_pos h1]⟩
  ·by_cases h2:y<x
   ·exact .inr (.inr ⟨List.cons_lt_cons_iff.2 (.inl h2),by rw [if_neg h1,if_pos h2]⟩)
   ·have e:x=y:=UInt8.le_antisymm (UInt8.not_lt.1 h2) (UInt8.not_lt.1 h1);subst e;rw [if_neg h1,if_neg h2];rcases Af8 a b with⟨h,e⟩|⟨h,e⟩|⟨h,e⟩
    ·exact .inl ⟨List.cons_lt_cons_iff.2 (.inr ⟨rfl,h⟩),e⟩
    ·exact .inr (.inl ⟨by rw [h],e⟩)
    ·exact .inr (.inr ⟨List.cons_lt_cons_iff.2 (.inr ⟨rfl,h⟩),e⟩)
def cfS(l:List (List UInt8))(x y:Fin l.length):Int:=Lib.compareBytes l[x] l[y]
theorem U7(l:List (List UInt8))(x y:Fin l.length):ltOf (cfS l) x y=decide (l[x]<l[y]):=by
 unfold ltOf cfS;rcases Af8 l[x] l[y] with⟨h,e⟩|⟨h,e⟩|⟨h,e⟩ <;>rw [e] <;>apply decide_eq_decide.2
 ·exact⟨fun _=>h,fun _=>by decide⟩
 ·exact⟨fun h=>absurd h (by decide),fun h'=>absurd h' (by rw [h];exact List.lt_irrefl _)⟩
 ·exact⟨fun h=>absurd h (by decide),fun h'=>absurd h' (List.lt_asymm h)⟩
theorem Ata(l:List (List UInt8)):SWO (ltOf (cfS l)) where
 irrefl x:=by rw [U7];exact decide_eq_false (List.lt_irrefl _)
 trans x y z h1 h2:=by rw [U7] at *;exact decide_eq_true (List.lt_trans (of_decide_eq_true h1) (of_decide_eq_true h2))
 ntrans x y z h1 h2:=by
  rw [U7] at*;have h1:=of_decide_eq_false h1;have h2:=of_decide_eq_false h2;apply decide_eq_false;intro h;rcases Af8 l[x] l[y] with⟨h3,_⟩|⟨h3,_⟩|⟨h3,_⟩
  ·exact h1 h3
  ·rw [h3] at h;exact h2 h
  ·exact h2 (List.lt_trans h3 h)
theorem Agv(bl:Nat)(A:Option Addr)(n c:Nat)(l:List (List UInt8))(x y:Nat)(w:World)(hb:w.cell? ⟨bl,0,none⟩=some (.slice A n c))(hI:Ey w A n l)(hx:x<n)(hy:y<n)(r:Int)(hr:∀hx hy,Lib.compareBytes (l[x]'hx) (l[y]'hy)=r):
  Calls Tryz.prog 213 #[Aa Ab (x:Int),Aa Ab (y:Int),.pointer (some ⟨bl,0,none⟩)] w fun e w'=>e= .returned (Aa Ab r)∧w'=w.drew:=by
 obtain⟨g,off,e,hx',c1⟩:=Gd hI hx;obtain⟨g2,off2,e2,hy',c2⟩:=Gd hI hy;have hr:=hr hx' hy';generalize l[x]=s at c1 hr;generalize l[y]=t at c2 hr;subst e;injection e2 with e2
 injection e2 with e3 e4
 subst e3 e4;have HR:=Hd hr;have hx0:(0:Int)≤(x:Int):=by omega
 have hxn:(x:Int)<(n:Int):=by omega
 have hy0:(0:Int)≤(y:Int):=by omega
 have hyn:(y:Int)<(n:Int):=by omega
 clear hr hI hx' hy';go_enter Tryz.func213,Tryz.ntmps213;go_wp2_with fail;go_region_held3 (fun w'=>w'.cell? ⟨bl,0,none⟩=some (.slice (some ⟨g,off,none⟩) n c)∧w'.cell? ⟨g,off+x,none⟩=some (.string ⟨s.toArray⟩)∧w'.cell? ⟨g,off+y,none⟩=some (.string ⟨t.toArray⟩)) (first|with_reducible exact⟨hb,c1,c2⟩|with_reducible exact⟨Ae hb,Ae c1,Ae c2⟩) (first|(go_at_call 214;(with_reducible refine(Akx s t _).mono ?_);rintro e w' ⟨rfl,rfl⟩));go_wp2_with fail;go_ret;exact⟨congrArg (fun z=>Ending.returned (Aa Ab z)) HR.o,rfl⟩
theorem Sp{α:Type}[Inhabited α]{enc:α→Value}{f:α→List Value}(hf:∀x,f x=[enc x]){w:World}{B g n c:Nat}{e:TypeId}{l:List α}(h:Go.Acc.Own f 1 e w B (some ⟨g,0,none⟩) n c l)(d':Array α)(hd:d'.size=n)(m:Nat)(os:Array Obj):
  Go.Acc.Own f 1 e (sortWorld enc w g 0 m d' os) B (some ⟨g,0,none⟩) n c d'.toList∧Fr (fun k=>k=g) w (sortWorld enc w g 0 m d' os):=by
 have hf1:∀x,(f x).length=1:=fun x=>by rw [hf];rfl
 obtain⟨cur,hK,hsz,htake,hnc,hcm,hb⟩:=Ps h.2 rfl;have hlt:=hK.lt;have hblk:(sortWorld enc w g 0 m d' os).heap[g]?=some (.cells (putCells enc 0 d' cur) e (0,0)):=by
  unfold sortWorld putRow mapBlock;rw [heap_grow_old _ _ (by simpa [ahead] using hlt)];have hK':w.heap[g]?=some (.cells cur e (0,0)):=hK;simp [Array.getElem?_modify,hK',onCells]
 refine⟨⟨by simp [hd],?_,.inr ⟨g,c,_,rfl,hb,hblk,hnc,hcm,?_,?_⟩⟩,⟨rfl,rfl,rfl,?_,?_⟩⟩
 ·rw [Bj hf1,Array.length_toList,hd]
 ·unfold putCells;rw [Array.size_mapIdx];exact hsz
 ·have hncs:n*1≤cur.size:=by rw [hsz];exact Nat.mul_le_mul_right _ hnc
  apply List.ext_getElem?;intro j;rw [List.getElem?_take];by_cases hj:j<n*1
  ·have hjd:j<d'.toList.length:=by rw [Array.length_toList,hd];omega
   have h1:=G7 hf1 d'.toList j 0 hjd (by omega);rw [Nat.mul_one,Nat.add_zero] at h1;have h2:(d'.toList.flatMap f)[j]?=some (enc d'[j]!):=by
    rw [h1,hf];simp [getElem!_pos d' j (by rw [←Array.length_toList];exact hjd)]
   rw [if_pos hj,h2];have hjc:j<cur.size:=by omega
   unfold putCells;simp [hd,hjc];omega
  ·rw [if_neg hj,List.getElem?_eq_none];rw [Bj hf1,Array.length_toList,hd];omega
 ·unfold sortWorld;rw [size_grow];simp [putRow,mapBlock]
 ·intro k hk hne;unfold sortWorld putRow mapBlock;rw [heap_grow_old _ _ (by simpa [ahead] using hk)];rw [Array.getElem?_modify,if_neg (fun e=>hne e.symm)];rfl
end Go.Proofs.YtgbjodnegkbfoaaGreat
namespace Go.Proofs.YtgbjodnegkbfoaaGreat
open Go.RowKit Go.Acc
theorem Q6{w:World}{A:Option Addr}{n:Nat}{l:List Nat}(h:Is Jw w A n l){k:Nat}(hk:k<n):
  ∃b off,A=some ⟨b,off,none⟩∧∃hk':k<l.length,w.cell? ⟨b,off+k,none⟩=some (Aa Ab (l[k]:Int)):=by
 obtain⟨b,off,e,hk',hc⟩:=h.at_ Fl (by omega) hk;exact⟨b,off,e,hk',by have:=hc 0 (by omega);simpa [Jw] using this⟩
def Afr(w:World)(n:Nat)(l:List Bv)(e:Ending)(w':World):Prop:=∃A c,e= .returned (.slice A n c)∧Fg w' w.heap.size A n c (l.map vv)∧Below w.heap.size w w'
def Nr(l:List Bv)(d:Nat)(p:Nat):Bv:=l.getD (2*p+d) ⟨0,0,0⟩
theorem Uq(bp bl d:Nat)(AP:Option Addr)(np cp:Nat)(ps:List Nat)(A:Option Addr)(n c:Nat)(l:List Bv)(w:World)(hp:Af w bp 151 #[.slice AP np cp])(hl:Af w bl 185 #[.slice A n c])(hP:Is Jw w AP np ps)(hI:D9 w A n (l.map vv))(hd:d≤1)(hn:np≤1000000)(hps:∀p∈ps,2*p+1<n)(hn2:n≤1000000):
  Calls Tryz.prog 238 #[Aa Ab (d:Int),.pointer (some ⟨bp,0,none⟩),.pointer (some ⟨bl,0,none⟩)] w (Afr w np (ps.map (Nr l d))):=by
 have HP:=Hd hp;have HL:=Hd hl;have HPS:=Hd hps;have HIP:=Hd hP;have HI:=Hd hI;have HLP:=Hd (show ps.length=np by have:=hP.1;simpa using this);have c0:w.cell? ⟨bp,0,none⟩=some (.slice AP np cp):=hp.cell 0;clear hp hl hP hI hps;go_enter Tryz.func238,Tryz.ntmps238;go_wp2_with fail;go_loopw [4,9] (fun s u wr=>∃k:Nat,k≤np∧u= Aa Ab k∧∃A1 c1,s= .slice A1 k c1∧Fg wr w.heap.size A1 k c1 (((ps.take k).map (Nr l d)).map vv)∧Below w.heap.size w wr) (fun _ u _=>np-(intOf u).toNat)
 case atStart=>exact⟨0,Atl _,rfl,none,0,rfl,Own.nil _ _,Below.refl _ _⟩
 case round=>
  obtain⟨k,hk,rfl,A1,c1,rfl,how,hbr⟩:=hrel;have HOW:=Hd how;have HBR:=Hd hbr;clear how hbr;by_cases hlt:k<np
  ·obtain⟨g,off,e,hk',v0⟩:=Q6 (HIP.o.pure HBR.o) hlt;obtain⟨p,hpp⟩:∃p,ps[k]=p:=⟨_,rfl⟩;rw [hpp] at v0;have hpn:=HPS.o p (by rw [←hpp];exact List.getElem_mem _);obtain⟨q,hq⟩:∃q,2*p+d=q:=⟨_,rfl⟩;have hqn:q<n:=by omega
   obtain⟨g2,off2,v,e2,hv,y0,y1,y2⟩:=Gt (HI.o.pure HBR.o) hqn;have hvp:Nr l d p=v:=by
    unfold Nr;rw [hq,List.getD_eq_getElem?_getD,hv];rfl
   have HT:=Hd (show(((ps.take (k+1)).map (Nr l d)).map vv)=(((ps.take k).map (Nr l d)).map vv)++ [vv v] by
    rw [Atv hk',hpp,List.map_append,List.map_append,List.map_cons,hvp];rfl)
   have d0:wr.cell? ⟨bp,0,none⟩=some (.slice AP np cp):=(HP.o.pure HBR.o).cell 0;have d1:wr.cell? ⟨bl,0,none⟩=some (.slice A n c):=(HL.o.pure HBR.o).cell 0;have hk0:(0:Int)≤(k:Int):=by omega
   have hkn:(k:Int)<(np:Int):=by omega
   have hq0:(2:Int)*(p:Int)+(d:Int)=(q:Int):=by omega
   have hq1:(0:Int)≤(q:Int):=by omega
   have hq2:(q:Int)<(n:Int):=by omega
   have hp0:(0:Int)≤(p:Int):=by omega
   have hp1:(2:Int)*(p:Int)≤1000000:=by omega
   have HB3:=Hd (HBR.o.alloc HBR.o.size (.cells #[Aa Ab (v.t:Int),Aa Ab (v.w:Int),Aa Ac (v.n:Int)] 210));have HO3:=Hd (HOW.o.pure ((Below.refl wr.heap.size wr).alloc (Ath _) (.cells #[Aa Ab (v.t:Int),Aa Ab (v.w:Int),Aa Ac (v.n:Int)] 210)));have HI3:=Hd (K3 wr v);have HEE:=Hd (And.intro e e2);rw [e];rw [e2] at d1;clear hpp hv hvp hk' hq e e2;go_wp2_with (at_builtin;refine Dt _ rfl (.tmp 13) (.tmp 21) _ rfl 210 _ 3 24 Tryz.underlying185 Kj rfl (by omega) Gz Ku _ _ _ _ _ rfl HO3.o _ _ _ _ rfl HI3.o (by omega) HB3.o.size ?_;intro A2 c2 w2 hown2 hfr2 hat2;have HO4:=Hd hown2;have HB4:=Hd (Bs HB3.o hfr2 (by rintro j ⟨ad,e,rfl⟩;exact(HO3.o.addr ad e).2.1));clear hown2 hfr2 hat2);go_roundw
   case rel=>exact⟨k+1,by omega,by go_num,A2,c2,rfl,by rw [HT.o];exact HO4.o,HB4.o⟩
   case measure=>simp [intOf];omega
  ·obtain rfl:k=np:=by omega
   have HE:=Hd (show ps.take k=ps from Att (by have:=HLP.o;omega));rw [HE.o] at HOW;go_wp2_with fail;go_ret;exact⟨A1,c1,rfl,HOW.o,HBR.o⟩
end Go.Proofs.YtgbjodnegkbfoaaGreat
