/- Parts of the proof. -/
import Derived.Test.YtgbjodnegkbfoaaGreatQm19
import Derived.Test.YtgbjodnegkbfoaaGreatQm27
import Derived.Shelf.SlSortCmp.NoneTotal
import Derived.Shelf.Small.Strs
import Derived.Ground.SlsfProg
import Derived.Ground.NamesProg
set_option maxHeartbeats 4000000
set_option maxRecDepth 100000
open Go.Value renaming int→Aa
open Go.IntKind renaming i64→Ab,u64→Ac
open Nat renaming le_refl→Asp,lt_of_lt_of_le→Asu
open List renaming getElem?_eq_getElem→Asq,take_of_length_le→Asy,take_succ_eq_append_getElem→Asz,getD_eq_getElem?_getD→As0
namespace Go.Proofs.YtgbjodnegkbfoaaGreat
open Go.RowKit Go.Acc
theorem Ye(f:Nat):∀(l:List (List UInt8)) (s:List UInt8) (b:Bd),b.puts f (l++ [s])=(((b.puts f l).1.put f s).1,(b.puts f l).2++ [((b.puts f l).1.put f s).2])
 | [],s,b=>by simp [Bd.puts]
 |x::r,s,b=>by
  rw [List.cons_append];simp only [Bd.puts,Ye f r s,List.cons_append]
theorem Amt(f:Nat)(s:List UInt8)(b:Bd):(b.put f s).1.b.length≤b.b.length+s.length+1∧(b.put f s).1.keys.length≤b.keys.length+1∧(b.put f s).1.names.length≤b.names.length+1∧(b.put f s).1.s=b.s:=by
 unfold Bd.put;have h:=Pc b.keys s b.b.length;cases(if Ir f 1=true then Bn b.keys s else none) with
 |some a=>exact⟨by simp;omega,by simp,by simp,rfl⟩
 |none=>exact⟨by simp;omega,by simpa using h,by simp,rfl⟩
theorem Qo(l m:List (List UInt8)):A6 (l++m)=A6 l+A6 m:=by
 induction l with
 |nil=>simp [A6]
 |cons s r ih=>simp only [List.cons_append,A6,ih];omega
theorem Yc(f:Nat)(l:List (List UInt8))(b:Bd):(b.puts f l).1.b.length≤b.b.length+A6 l∧(b.puts f l).1.keys.length≤b.keys.length+l.length∧(b.puts f l).1.names.length≤b.names.length+l.length∧(b.puts f l).1.s=b.s:=by
 induction l generalizing b with
 |nil=>simp [Bd.puts,A6]
 |cons s r ih=>
  obtain⟨a1,a2,a3,a4⟩:=Amt f s b;obtain⟨b1,b2,b3,b4⟩:=ih (b.put f s).1;simp only [Bd.puts,A6,List.length_cons];exact⟨by omega,by omega,by omega,b4.trans a4⟩
structure Rg(b:Bd)(l:List (List UInt8)):Prop where
 st:b.s.length<65536
 len:b.b.length+A6 l≤1048576
 ky:b.keys.length+l.length≤1048575
 nm:b.names.length+l.length≤1048575
theorem Rg.at_{b:Bd}{l:List (List UInt8)}(h:Rg b l)(f:Nat){k:Nat}{s:List UInt8}(hs:l[k]?=some s):Oa (b.puts f (l.take k)).1 s:=by
 obtain⟨g1,g2,g3,g4⟩:=Yc f (l.take k) b;have hk:k<l.length:=(List.getElem?_eq_some_iff.1 hs).1;have e:l=l.take k++s::l.drop (k+1):=by
  have h1:=(List.getElem?_eq_some_iff.1 hs).2
  conv=>lhs;rw [←List.take_append_drop k l,List.drop_eq_getElem_cons hk,h1]
 have hc:A6 l=A6 (l.take k)+(s.length+20+A6 (l.drop (k+1))):=by
  conv=>lhs;rw [e]
  rw [Qo];rfl
 rw [List.length_take,Nat.min_eq_left (by omega)] at g2 g3;have h1:=h.len;have h2:=h.ky;have h3:=h.nm;exact⟨by rw [g4];exact h.st,by omega,by omega,by omega⟩
theorem Anb{I S:Nat→Prop}{w w' w'':World}{o o':Nat→Nat}(h:To I w o w' o')(hf:Fr S w' w'')(hS:∀k,S k→w.heap.size≤k)(i:Nat):To I w o w'' (Aq o' w'.heap.size i):=
 ⟨h.fr.trans hf (fun k hk hs=>absurd (hS k hs) (by omega)),fun k hk=>by rw [Ax (Asu hk h.size)];exact h.ow k hk⟩
def An3(M:Bp)(fl:Int)(w:World)(o:Nat→Nat)(n:Nat)(x:Bd×List Bv)(e:Ending)(w':World):Prop:=
 ∃A c,e= .returned (.slice A n c)∧E3 w' w.heap.size A n c (x.2.map vv)∧∃o',BM M fl w' o' x.1∧To B6 w o w' o'∧∀ad,A=some ad→o' ad.block=0
theorem Ajf(M:Bp)(fl:Int)(b:Bd)(A:Option Addr)(n c:Nat)(l:List (List UInt8))(w:World)(o:Nat→Nat)(h:BM M fl w o b)(hI:Ek w A n l)(ho:∀ad,A=some ad→ad.block<w.heap.size∧o ad.block=0)(hn:n≤1000000)(hr:Rg b l)(hz:∀s∈l,Br s=false):
  Calls Tryz.prog 227 #[.func (.func 228) #[.pointer (some ⟨M.β,0,none⟩)] #[],.slice A n c] w (An3 M fl w o n (b.puts (bits fl) l)):=by
 obtain⟨f,hf⟩:∃f,bits fl=f:=⟨_,rfl⟩;have HF:=Hd hf;have HM:=Hd h;have HI:=Hd hI;have HOO:=Hd ho;have HR:=Hd hr;have HZ:=Hd hz;have HL:=Hd hI.1;rw [hf];clear h hI ho hr hz hf;go_enter Tryz.func227,Tryz.ntmps227;go_wp2_with fail;go_loopw [4,9] (fun s u wr=>∃k:Nat,k≤n∧u= Aa Ab k∧∃A1 c1,s= .slice A1 k c1∧E3 wr w.heap.size A1 k c1 ((b.puts f (l.take k)).2.map vv)∧∃o',BM M fl wr o' (b.puts f (l.take k)).1∧To B6 w o wr o'∧(∀ad,A1=some ad→o' ad.block=0)∧Ek wr A n l∧w.heap.size≤wr.heap.size) (fun _ u _=>n-(intOf u).toNat)
 case atStart=>exact⟨0,Nat.zero_le _,rfl,none,0,rfl,Own.nil _ _,o,by rw [List.take_zero];exact HM.o,To.refl _ _ _,(fun ad h=>by cases h),HI.o,Asp _⟩
 case round=>
  obtain⟨k,hk,rfl,A1,c1,rfl,how,o',hm,ht,hoa,hi,hsz⟩:=hrel;have HOW:=Hd how;have HMR:=Hd hm;have HTR:=Hd ht;have HOA:=Hd hoa;have HSZ:=Hd hsz;have HIR:=Hd hi;clear how hm ht hoa hsz hi HM HI;by_cases hlt:k<n
  ·obtain⟨g,off,e,hk',hc⟩:=Fy HIR.o hlt;obtain⟨s,hs⟩:∃s,l[k]=s:=⟨_,rfl⟩;rw [hs] at hc;have hls:l[k]?=some s:=by rw [Asq hk',hs]
   have HRK:=Hd (HR.o.at_ f hls);have HZK:=Hd (HZ.o s (List.mem_of_getElem? hls));have HT:=Hd (show b.puts f (l.take (k+1))=(((b.puts f (l.take k)).1.put f s).1,(b.puts f (l.take k)).2++ [((b.puts f (l.take k)).1.put f s).2]) by
    rw [Asz hk',hs,Ye])
   have hk0:(0:Int)≤(k:Int):=by omega
   have hkn:(k:Int)<(n:Int):=by omega
   have hcp:=Xs M fl _ s wr o' HMR.o HRK.o HZK.o;rw [HF.o] at hcp;have HCP:=Hd hcp;have HOI:=Hd (show ∀ad,A=some ad→o' ad.block=0 from fun ad h=>(HTR.o.ow _ (HOO.o ad h).1).trans (HOO.o ad h).2);have HE1:=Hd e;rw [e];clear hs hls hk' hcp e;go_wp2_with fail;go_at_call 228;refine HCP.o.mono ?_;rintro x w2 ⟨a,ha,rfl,o2,hm2,ht2⟩;have HAA:=Hd ha;have HM2:=Hd hm2;have HT2:=Hd (HTR.o.trans ht2);have HO2:=Hd (HOW.o.fr ht2.fr (fun ad h=>by rw [HOA.o ad h];exact Bg));have HOA2:=Hd (show ∀ad,A1=some ad→o2 ad.block=0 from fun ad h=>(ht2.ow _ (HOW.o.addr ad h).2.2).trans (HOA.o ad h));have HI2:=Hd (HIR.o.fr ht2.fr (fun ad h=>by rw [HOI.o ad h];exact Bg));have HS2:=Hd (Nat.le_trans HSZ.o ht2.size);clear ha hm2 ht2 hc;have hA3:=(Below.refl w2.heap.size w2).alloc (Asp _) (.cells #[Aa Ab ((⟨4,1,a⟩:Bv).t:Int),Aa Ab ((⟨4,1,a⟩:Bv).w:Int),Aa Ac ((⟨4,1,a⟩:Bv).n:Int)] 210);have HM3:=Hd (HM2.o.fresh hA3 0);have HT3:=Hd (HT2.o.trans (To.fresh B6 hA3 o2 0));have HO3:=Hd (HO2.o.pure hA3);have HI3:=Hd (HI2.o.pure hA3);have HOA3:=Hd (show ∀ad,A1=some ad→Aq o2 w2.heap.size 0 ad.block=0 from fun ad h=>by rw [Ax (HO2.o.addr ad h).2.2];exact HOA2.o ad h);have HOI3:=Hd (show ∀ad,A=some ad→ad.block<w.heap.size from fun ad h=>(HOO.o ad h).1);have HS3:=Hd (Nat.le_trans HS2.o hA3.size);have HLT:=Hd (Km w2 ⟨4,1,a⟩);clear hA3;go_wp2_with (at_builtin;refine Dm _ rfl (.tmp 13) (.tmp 17) _ rfl 210 _ 3 24 Tryz.underlying185 Jv rfl (by omega) Gl J9 _ _ _ _ _ rfl HO3.o _ _ _ _ rfl HLT.o (by omega) HS3.o ?_;intro A4 c4 w4 hown4 hfr4 hat4);have HW3:=Hd (show ∀ad,A1=some ad→ad.block<(w2.alloc (.cells #[Aa Ab ((⟨4,1,a⟩:Bv).t:Int),Aa Ab ((⟨4,1,a⟩:Bv).w:Int),Aa Ac ((⟨4,1,a⟩:Bv).n:Int)] 210)).heap.size from fun ad h=>(HO3.o.addr ad h).2.2);have HSA:=Hd (show ∀j,(∃ad,A1=some ad∧j=ad.block)→w.heap.size≤j by rintro j ⟨ad,e,rfl⟩;exact(HO3.o.addr ad e).2.1);have HO4:=Hd hown4;have HM4:=Hd (HM3.o.to_ (To.of_fr (I:=fun i=>i=0) hfr4 (by rintro j _ ⟨ad,e,rfl⟩;exact HOA3.o ad e) 0) (fun i hi e=>by subst e;exact Bg hi));have HT4:=Hd (Anb HT3.o hfr4 HSA.o 0);have HI4:=Hd (show Ek w4 A n l from HI3.o.fr hfr4 (by rintro ad h ⟨ad',e',h'⟩;have h1:=HOI3.o ad h;have h2:=HSA.o ad.block ⟨ad',e',h'⟩;omega));have HOA4:=Hd (show ∀ad,A4=some ad→Aq (Aq o2 w2.heap.size 0) (w2.alloc (.cells #[Aa Ab ((⟨4,1,a⟩:Bv).t:Int),Aa Ab ((⟨4,1,a⟩:Bv).w:Int),Aa Ac ((⟨4,1,a⟩:Bv).n:Int)] 210)).heap.size 0 ad.block=0 from fun ad h=>by
    subst h;rcases hat4 with h1|h1
    ·cases hA1:A1 with
     |none=>rw [hA1] at h1;cases h1
     |some ad1=>
      rw [hA1] at h1;have h2:ad.block=ad1.block:=by simpa using h1
      rw [h2,Ax (HW3.o ad1 hA1)];exact HOA3.o ad1 hA1
    ·have h2:ad.block=(w2.alloc (.cells #[Aa Ab ((⟨4,1,a⟩:Bv).t:Int),Aa Ab ((⟨4,1,a⟩:Bv).w:Int),Aa Ac ((⟨4,1,a⟩:Bv).n:Int)] 210)).heap.size:=by injection h1
     rw [h2];exact As (Asp _))
   have HS4:=Hd (Nat.le_trans HS3.o hfr4.size);clear hown4 hfr4 hat4;go_wp2_with fail;go_roundw
   case rel=>
    refine⟨k+1,by omega,by go_num,A4,c4,rfl,?_,_,?_,HT4.o,HOA4.o,by rw [←HE1.o];exact HI4.o,HS4.o⟩
    ·rw [HT.o,HAA.o,List.map_append];exact HO4.o
    ·rw [HT.o];exact HM4.o
   case measure=>simp [intOf];omega
  ·obtain rfl:k=n:=by omega
   have HE:=Hd (show l.take k=l from Asy (by have:=HL.o;omega));rw [HE.o] at HOW HMR;go_wp2_with fail;go_ret;exact⟨A1,c1,rfl,HOW.o,o',HMR.o,HTR.o,HOA.o⟩
theorem Xz{l:List UInt8}{ks:List (List UInt8)}{vs:List Bv}(h:Ft l ks vs)(hl:l.length+40+9*ks.length≤1048576):Du vs l∧∀v∈vs,v.t=4:=by
 have hm:∀v∈vs,∃s,Iu l s v:=by
  intro v hv;obtain⟨i,hi,e⟩:=List.getElem_of_mem hv;have hk:i<ks.length:=by rw [←h.1];exact hi
  exact⟨ks[i],h.2 i ks[i] v (Asq hk) (by rw [Asq hi,e])⟩
 exact⟨⟨fun v hv=>by obtain⟨s,h1,_⟩:=hm v hv;rw [h1];decide,fun v hv=>by obtain⟨s,_,h2,_⟩:=hm v hv;rw [h2];decide,h.fit,by rw [h.1];exact hl⟩,
  fun v hv=>by obtain⟨s,h1,_⟩:=hm v hv;exact h1⟩
theorem Acl(M:Bp)(fl:Int)(b:Bd)(A:Option Addr)(n c:Nat)(l:List (List UInt8))(bx bl:Nat)(w:World)(o:Nat→Nat)(h:BM M fl w o b)(hx:Ag w bx 120 #[.pointer (some ⟨M.β,0,none⟩)])(hb:Ag w bl 23 #[.slice A n c])(hox:o bx=0)(hob:o bl=0)
  (hI:Ek w A n l) (ho:∀ad,A=some ad→ad.block<w.heap.size∧o ad.block=0) (hn:n≤1000000) (hr:Rg b l) (hz:∀s∈l,Br s=false) (hg:Cp b) (hl:b.b.length+A6 l+40+9*l.length≤1048576):
  Calls Tryz.prog 226 #[.pointer (some ⟨bx,0,none⟩),.pointer (some ⟨bl,0,none⟩)] w (Ck M fl ((b.puts (bits fl) l).1.vec 14 true false (b.puts (bits fl) l).2) w o):=by
 obtain⟨f,hf⟩:∃f,bits fl=f:=⟨_,rfl⟩;have hms:=Ajf M fl b A n c l w.drew o h.drew hI ho hn hr hz;rw [hf] at hms⊢;obtain⟨hst,hka,hse⟩:=Tl f l b hg;obtain⟨g1,g2,g3,g4⟩:=Yc f l b;obtain⟨hok,hel⟩:=Xz hka (by omega);obtain⟨x,hxx⟩:∃x,b.puts f l=x:=⟨_,rfl⟩;rw [hxx] at hms hok hel hse⊢;obtain⟨b',vs⟩:=x;have HMS:=Hd hms;have HOK:=Hd hok;have HEL:=Hd hel;have HSS:=Hd (show b'.s.length<65536 by rw [show b'.s=b.s from hse];exact hr.st);have HPV:=Hd (fun(A2:Option Addr) (c2:Nat)=>(show Lh M b'.b 4 0 A2 n c2 vs ((Bk 14 true false vs b'.b).1,(Bk 14 true false vs b'.b).2) from Ru (e:=4) hok (.inl ⟨rfl,.inr (.inr (.inl rfl))⟩) hel));have HX:=Hd hx;have HB:=Hd hb;have HOX:=Hd (And.intro hox hob);have x0:w.cell? ⟨bx,0,none⟩=some (.pointer (some ⟨M.β,0,none⟩)):=hx.cell 0;have x1:w.cell? ⟨bl,0,none⟩=some (.slice A n c):=hb.cell 0;clear h hx hb hox hob hI ho hr hz hg hl hms hok hel hse hst hka g1 g2 g3 g4 hf hxx;go_enter Tryz.func226,Tryz.ntmps226;go_wp2_with fail;go_region_held3 (fun w'=>w'.cell? ⟨bx,0,none⟩=some (.pointer (some ⟨M.β,0,none⟩))∧w'.cell? ⟨bl,0,none⟩=some (.slice A n c)) (first|with_reducible exact⟨x0,x1⟩|with_reducible exact⟨Af x0,Af x1⟩|with_reducible exact⟨y0,y1⟩|with_reducible exact⟨z0,z1⟩) (first|(go_at_call 227;(with_reducible refine HMS.o.mono ?_);rintro e w2 ⟨A2,c2,rfl,hO2,o2,hM2,hT2,hA2⟩;have hT2':=hT2.from_drew;have hX2:=HX.o.to_ hT2' (by rw [HOX.o.1];exact Bg);have hB2:=HB.o.to_ hT2' (by rw [HOX.o.2];exact Bg);have y0:w2.cell? ⟨bx,0,none⟩=some (.pointer (some ⟨M.β,0,none⟩)):=hX2.cell 0;have y1:w2.cell? ⟨bl,0,none⟩=some (.slice A n c):=hB2.cell 0;have HX2:=Hd hX2;have HB2:=Hd hB2;have HOX2:=Hd (And.intro ((hT2'.ow _ HX.o.lt).trans HOX.o.1) ((hT2'.ow _ HB.o.lt).trans HOX.o.2));have HM2:=Hd hM2;have HT2:=Hd hT2';have HO2:=Hd hO2;have HA2:=Hd hA2;clear hT2 hT2' hX2 hB2 hO2 hM2 hA2)|(go_at_call 218;(with_reducible refine(Hg M fl b' 4 0 A2 n c2 vs (Bk 14 true false vs b'.b).1 (Bk 14 true false vs b'.b).2 _ o2 HM2.o HO2.o.is (fun ad e=>⟨(HO2.o.addr ad e).2.2,HA2.o ad e⟩) HSS.o (HPV.o A2 c2)).mono ?_);rintro e w3 ⟨rfl,o3,hM3,hT3⟩;have z0:w3.cell? ⟨bx,0,none⟩=some (.pointer (some ⟨M.β,0,none⟩)):=(HX2.o.to_ hT3 (by rw [HOX2.o.1];exact Bg)).cell 0;have z1:w3.cell? ⟨bl,0,none⟩=some (.slice A n c):=(HB2.o.to_ hT3 (by rw [HOX2.o.2];exact Bg)).cell 0;have HM3:=Hd hM3;have HT3:=Hd (HT2.o.trans hT3);clear hM3 hT3));go_wp2_with fail;go_end0;exact⟨rfl,o3,HM3.o,HT3.o⟩
theorem Afq(M:Bp)(fl:Int)(b:Bd)(A:Option Addr)(n c:Nat)(l:List (List UInt8))(w:World)(o:Nat→Nat)(h:BM M fl w o b)
  (hI:Ek w A n l) (ho:∀ad,A=some ad→ad.block<w.heap.size∧o ad.block=0) (hn:n≤1000000) (hr:Rg b l) (hz:∀s∈l,Br s=false) (hg:Cp b) (hl:b.b.length+A6 l+40+9*l.length≤1048576):
  Calls Tryz.prog 143 #[.pointer (some ⟨M.β,0,none⟩),.slice A n c] w (Ck M fl ((b.puts (bits fl) l).1.vec 14 true false (b.puts (bits fl) l).2) w o):=by
 have hB:=Ba w (.cells #[.pointer (some ⟨M.β,0,none⟩)] 120) (.cells #[.slice A n c] 23);have HB:=Hd hB;have HM:=Hd (h.fresh hB 0);have HF:=Hd (Acl M fl b A n c l w.heap.size (w.heap.size+1) _ (Aq o w.heap.size 0) (h.fresh hB 0) ((Ag.new w 120 #[.pointer (some ⟨M.β,0,none⟩)]).alloc _) (B3 w _ 23 #[.slice A n c]) (As (by omega)) (As (by omega))
  (hI.pure hB) (fun ad e=>⟨by have h1:=(ho ad e).1;have h2:=hB.size;omega,by rw [Ax (ho ad e).1];exact(ho ad e).2⟩) hn hr hz hg hl)
 clear h hI ho hr hz hg hl hB;go_enter Tryz.func143,Tryz.ntmps143;go_wp2_with fail;go_at_call 225;refine(Dh M fl 226 _ _ (Aq o w.heap.size 0) b.vals _ HM.o.head Tryz.call226 (HF.o.mono fun e w' h=>⟨h.1,h⟩)).mono ?_;rintro e w' hR;obtain rfl:=hR.1;have HR:=Hd (hR.from_fresh HB.o);clear hR;go_wp2;go_end0;exact HR.o
theorem Xm(M:Bp)(fl:Int)(b:Bd)(k:Nat)(w:World)(o:Nat→Nat)(h:BM M fl w o b)(hk:b.s.length=k):Calls Tryz.prog 230 #[.pointer (some ⟨M.β,0,none⟩)] w fun e w'=>e= .returned (Aa Ab (k:Int))∧w=w':=by
 have HM:=Hd h;have HK:=Hd hk;obtain⟨c0,c1,c2,c9,_⟩:=h.head.cells;clear h hk;go_enter Tryz.func230,Tryz.ntmps230;go_wp2_with (go_at_call 155;refine(Oj M.β _ (by assumption)).mono ?_;rintro e w' ⟨rfl,rfl⟩);go_at_call 326;refine(Apj M.sb k b.s _ o HM.o.stk HK.o).mono ?_;rintro e w' ⟨rfl,rfl⟩;go_wp2_with fail;go_ret;exact⟨rfl,rfl⟩
theorem Ah9(M:Bp)(fl:Int)(b:Bd)(k:Nat)(w:World)(o:Nat→Nat)(h:BM M fl w o b)(hk:b.s.length=k):Calls Tryz.prog 148 #[.pointer (some ⟨M.β,0,none⟩)] w fun e w'=>e= .returned (Aa Ab (k:Int))∧w=w':=by
 go_enter Tryz.func148,Tryz.ntmps148;go_wp2_with fail;go_at_call 230;refine(Xm M fl b k _ o h hk).mono ?_;rintro e w' ⟨rfl,rfl⟩;go_wp2_with fail;go_ret;exact⟨rfl,rfl⟩
theorem Ah0(M:Bp)(fl:Int)(b:Bd)(k:Nat)(w:World)(o:Nat→Nat)(h:BM M fl w o b)(hk:b.s.length=k):Calls Tryz.prog 150 #[.pointer (some ⟨M.β,0,none⟩)] w fun e w'=>e= .returned (Aa Ab (k:Int))∧w=w':=by
 go_enter Tryz.func150,Tryz.ntmps150;go_wp2_with fail;go_at_call 230;refine(Xm M fl b k _ o h hk).mono ?_;rintro e w' ⟨rfl,rfl⟩;go_wp2_with fail;go_ret;exact⟨rfl,rfl⟩
def Ara(w:World)(l:List Bv)(e:Ending)(w':World):Prop:=∃A c,e= .returned (.slice A l.length c)∧E3 w' w.heap.size A l.length c (l.map vv)∧Below w.heap.size w w'
theorem Ua(M:Bp)(fl:Int)(b:Bd)(k:Nat)(w:World)(o:Nat→Nat)(h:BM M fl w o b)(hk:k≤b.s.length):Calls Tryz.prog 232 #[.pointer (some ⟨M.β,0,none⟩),Aa Ab (k:Int)] w (Ara w (b.s.drop k)):=by
 have HM:=Hd h;have HK:=Hd hk;obtain⟨c0,c1,c2,c9,_⟩:=h.head.cells;clear h hk;go_enter Tryz.func232,Tryz.ntmps232;go_wp2_with fail;go_at_call 156;refine(Abs M.sb k b.s _ o HM.o.stk HK.o).mono ?_;rintro e w1 ⟨A,n,c,rfl,hO,hb⟩;have hn:n=(b.s.drop k).length:=by have:=hO.1;simpa using this.symm
 have HN:=Hd hn;have HO:=Hd hO;have HB:=Hd hb;clear hn hO hb c0 c1 c2 c9;go_wp2_with fail;go_ret;obtain rfl:=HN.o;exact⟨A,c,rfl,HO.o,HB.o⟩
theorem Aaa(M:Bp)(fl:Int)(b:Bd)(k bx bk:Nat)(w:World)(o:Nat→Nat)(h:BM M fl w o b)(hx:Ag w bx 120 #[.pointer (some ⟨M.β,0,none⟩)])(hb:Ag w bk 3 #[Aa Ab (k:Int)])(hox:o bx=0)(hk:k≤b.s.length)(hs:b.s.length≤65536)(hks:k<65536)(hok:Du (b.s.drop k) b.b):
  Calls Tryz.prog 231 #[.pointer (some ⟨bx,0,none⟩),.pointer (some ⟨bk,0,none⟩)] w (Ck M fl (b.endVec k) w o):=by
 have HM:=Hd h;have HK:=Hd hk;have HX:=Hd hx;have HOX:=Hd hox;have HOK:=Hd hok;have HSB:=Hd hs;obtain⟨m,hm⟩:∃m,(b.s.drop k).length=m:=⟨_,rfl⟩;have HMM:=Hd hm;have hmk:m≤b.s.length∧b.s.length-m=k:=by rw [List.length_drop] at hm;omega
 have HMK:=Hd hmk;have HST:=Hd (show(b.s.take k).length<65536 by rw [List.length_take];omega);have x0:w.cell? ⟨bx,0,none⟩=some (.pointer (some ⟨M.β,0,none⟩)):=hx.cell 0;have x1:w.cell? ⟨bk,0,none⟩=some (Aa Ab (k:Int)):=hb.cell 0;clear h hx hb hox hok hm hmk;go_enter Tryz.func231,Tryz.ntmps231;go_wp2_with fail;go_at_call 232;refine(Ua M fl b k _ o HM.o HK.o).mono ?_;rintro e w1 ⟨A,c,rfl,hO,hb⟩;rw [HMM.o] at hO⊢;have HO:=Hd hO;have HA1:=Hd (show ∀ad,A=some ad→ad.block<w1.heap.size∧Aq o w.heap.size 0 ad.block=0 from fun ad e=>⟨(hO.addr ad e).2.2,As (hO.addr ad e).2.1⟩);have HM1:=Hd (HM.o.fresh hb 0);have HX1:=Hd (HX.o.pure hb);have HT1:=Hd (To.fresh B6 hb o 0);have HOX1:=Hd (show Aq o w.heap.size 0 bx=0 by rw [Ax HX.o.lt];exact HOX.o);clear hO hb x0 x1;have x0:w1.cell? ⟨bx,0,none⟩=some (.pointer (some ⟨M.β,0,none⟩)):=HX1.o.cell 0;obtain⟨c0,c1,c2,c9,_⟩:=HM1.o.head.cells;go_wp2_with fail;go_at_call 233;refine(Aeq M.sb m b.s _ _ HM1.o.stk HMK.o.1 (by have:=HSB.o;have:=HMK.o.1;omega)).mono ?_;rintro e w2 ⟨⟨A2,n2,c2',rfl⟩,o2,hS2,hT2⟩;rw [HMK.o.2] at hS2;have HM2:=Hd (HM1.o.stk_ hT2 hS2);have HT2:=Hd (HT1.o.trans (hT2.mono fun _ h=>Afh h));have HX2:=Hd (HX1.o.to_ hT2 (by rw [HOX1.o];omega));have HO2:=Hd (HO.o.fr hT2.fr (fun ad e=>by rw [(HA1.o ad e).2];omega));have HA2:=Hd (show ∀ad,A=some ad→ad.block<w2.heap.size∧o2 ad.block=0 from fun ad e=>⟨Asu (HA1.o ad e).1 hT2.size,(hT2.ow _ (HA1.o ad e).1).trans (HA1.o ad e).2⟩);clear hS2 hT2 x0 c0 c1 c2 c9;have x0:w2.cell? ⟨bx,0,none⟩=some (.pointer (some ⟨M.β,0,none⟩)):=HX2.o.cell 0;have HPV:=Hd (show Lh M b.b (-1) 0 A m c (b.s.drop k) ((Bk 10 true true (b.s.drop k) b.b).1,(Bk 10 true true (b.s.drop k) b.b).2) from Apb HOK.o);go_wp2_with fail;go_at_call 218;refine(Hg M fl { b with s:=b.s.take k} (-1) 0 A m c (b.s.drop k) _ _ _ o2 HM2.o HO2.o.is HA2.o HST.o HPV.o).mono ?_;rintro e w3 ⟨rfl,o3,hM3,hT3⟩;have HM3:=Hd hM3;have HT3:=Hd (HT2.o.trans hT3);clear hM3 hT3 x0;go_wp2_with fail;go_end0;exact⟨rfl,o3,HM3.o,HT3.o⟩
theorem Acz(M:Bp)(fl:Int)(b:Bd)(k:Nat)(w:World)(o:Nat→Nat)(h:BM M fl w o b)(hk:k≤b.s.length)(hs:b.s.length≤65536)(hks:k<65536)(hok:Du (b.s.drop k) b.b):
  Calls Tryz.prog 149 #[.pointer (some ⟨M.β,0,none⟩),Aa Ab (k:Int)] w (Ck M fl (b.endVec k) w o):=by
 have hB:=Ba w (.cells #[.pointer (some ⟨M.β,0,none⟩)] 120) (.cells #[Aa Ab (k:Int)] 3);have HB:=Hd hB;have HM:=Hd (h.fresh hB 0);have HF:=Hd (Aaa M fl b k w.heap.size (w.heap.size+1) _ (Aq o w.heap.size 0) (h.fresh hB 0) ((Ag.new w 120 #[.pointer (some ⟨M.β,0,none⟩)]).alloc _) (B3 w _ 3 #[Aa Ab (k:Int)]) (As (by omega)) hk hs hks hok);clear h hk hs hks hok hB;go_enter Tryz.func149,Tryz.ntmps149;go_wp2_with fail;go_at_call 225;refine(Dh M fl 231 _ _ (Aq o w.heap.size 0) b.vals _ HM.o.head Tryz.call231 (HF.o.mono fun e w' h=>⟨h.1,h⟩)).mono ?_;rintro e w' hR;obtain rfl:=hR.1;have HR:=Hd (hR.from_fresh HB.o);clear hR;go_wp2;go_end0;exact HR.o
def Ahg(names:List (Nat×List UInt8))(ns:List (List UInt8))(l:List Bv):Prop:=
 l.length=2*ns.length∧∀(i:Nat) s v,ns[i]?=some s→l[2*i]?=some v→v.t=4∧names.find? (fun x=>x.1==v.n)=some (v.n,s)∧v.n<18446744073709551616
theorem Agv{v:Value}{s:List UInt8}{ps:List MemPlace}(h:plainElem (H:=Unit) Tryz.prog 9 v=some (.lit (.string s),ps)):v= .string ⟨s.toArray⟩:=by
 unfold plainElem at h;rw [Tryz.underlying9] at h;cases v <;>simp at h
 next b=>
  obtain⟨_,h⟩:=h;obtain⟨b⟩:=b;obtain⟨h,_⟩:=h;simp at h;subst h;rfl
theorem K0.look{w:World}{o:Nat→Nat}{p a:Nat}{m:List (Nat×List UInt8)}{s:List UInt8}(h:K0 w o p m)(ha:a<18446744073709551616)(hf:m.find? (fun x=>x.1==a)=some (a,s)):
  (Instr.lookup 184 (.map (some p)) (Aa Ac (a:Int)) false).run Tryz.prog w= .ok (.string ⟨s.toArray⟩) w:=by
 obtain⟨_,n,D,hm,_,hat⟩:=h;have hz:(zeroValue 9).run Tryz.prog w= .ok (.string ⟨#[]⟩) w:=by kernel_rfl
 obtain⟨v,ps,hrun,hv⟩:=hm.lookup Ny Tryz.underlying184 hz (show plainElem Tryz.prog 9 (.string ⟨#[]⟩)=some (.lit (.string []),[]) by kernel_rfl) (Maps.keyOf_int_mk Tryz.underlying22 (Vy a ha));rw [hat a s hf] at hv;rw [Agv hv] at hrun;exact hrun
def Ap2(w:World)(ns:List (List UInt8))(e:Ending)(w':World):Prop:=∃A c,e= .returned (.slice A ns.length c)∧Kg w' w.heap.size A ns.length c ns∧Below w.heap.size w w'
theorem F2.map_cell{M:Bp}{fl:Int}{w:World}{o:Nat→Nat}{vals:List Bv}(h:F2 M fl w o vals):w.cell? ⟨M.β,7,none⟩=some (.map (some M.mb)):=by
 obtain⟨A,n,c,hb,_⟩:=h;exact hb.cell 7
theorem Agl(M:Bp)(fl:Int)(b:Bd)(A:Option Addr)(n c:Nat)(l:List Bv)(ns:List (List UInt8))(w:World)(o:Nat→Nat)(h:BM M fl w o b)(hI:Dx w A n (l.map vv))(hn:n≤1000000)(hv:Ahg b.names ns l):
  Calls Tryz.prog 237 #[.pointer (some ⟨M.β,0,none⟩),.slice A n c] w (Ap2 w ns):=by
 have HM:=Hd h;have HI:=Hd hI;have HV:=Hd hv.2;have HL:=Hd (show l.length=n by have:=hI.1;simpa using this);obtain⟨m,hm⟩:∃m,ns.length=m:=⟨_,rfl⟩;have HML:=Hd hm;have hnm:n=2*m:=by have:=hv.1;have:=HL.o;omega
 subst hnm;have hlen:((2*m:Nat):Int) % 2=0:=by omega
 clear h hI hv hm;go_enter Tryz.func237,Tryz.ntmps237;go_wp2_with fail;go_loopw [4,9] (fun s u wr=>∃k:Nat,k≤2*m∧u= Aa Ab k∧∃A1 c1,s= .slice A1 ((k+1)/2) c1∧Kg wr w.heap.size A1 ((k+1)/2) c1 (ns.take ((k+1)/2))∧Below w.heap.size w wr) (fun _ u _=>2*m-(intOf u).toNat)
 case atStart=>exact⟨0,Nat.zero_le _,rfl,none,0,rfl,Own.nil _ _,Below.refl _ _⟩
 case round=>
  obtain⟨k,hk,rfl,A1,c1,rfl,how,hbr⟩:=hrel;have HOW:=Hd how;have HBR:=Hd hbr;have hIr:=HI.o.pure hbr;have HMR:=Hd (HM.o.pure hbr);clear how hbr;by_cases hlt:k<2*m
  ·obtain⟨g,off,v,e,hv,v0,v1,v2⟩:=Gg hIr hlt;have hk0:(0:Int)≤(k:Int):=by omega
   have hkn:(k:Int)<((2*m:Nat):Int):=by omega
   rw [e];rcases Nat.mod_two_eq_zero_or_one k with hp|hp
   ·obtain⟨j,rfl⟩:∃j,k=2*j:=⟨k/2,by omega⟩;have hj:(2*j+1)/2=j:=by omega
    have hj2:(2*j+1+1)/2=j+1:=by omega
    have hjm:j<ns.length:=by have:=HML.o;omega
    obtain⟨s,hs⟩:∃s,ns[j]?=some s:=⟨_,Asq hjm⟩;obtain⟨ht,hf,ha⟩:=HV.o j s v hs hv;have hmod:(((2*j:Nat)):Int) % 2=0:=by omega
    have HT:=Hd (show ns.take (j+1)=ns.take j++ [s] by
     obtain⟨q1,q2⟩:=List.getElem?_eq_some_iff.1 hs;rw [Asz q1,q2])
    have hvt:(v.t:Int)=4:=by omega
    have hAl:=(Below.refl wr.heap.size wr).alloc (Asp _) (.cells #[Aa Ab 4,Aa Ab (v.w:Int),Aa Ac (v.n:Int)] 210);have HMA:=Hd (HMR.o.pure hAl);have hlk:(Instr.lookup 184 (.map (some M.mb)) (Aa Ac (v.n:Int)) false).run Tryz.prog (wr.alloc (.cells #[Aa Ab 4,Aa Ab (v.w:Int),Aa Ac (v.n:Int)] 210)).drew= .ok (.string ⟨s.toArray⟩) (wr.alloc (.cells #[Aa Ab 4,Aa Ab (v.w:Int),Aa Ac (v.n:Int)] 210)).drew:=HMA.o.drew.names.look ha hf;have cm:(wr.alloc (.cells #[Aa Ab 4,Aa Ab (v.w:Int),Aa Ac (v.n:Int)] 210)).drew.cell? ⟨M.β,7,none⟩=some (.map (some M.mb)):=HMA.o.drew.head.map_cell;have hob:Below wr.heap.size wr ((wr.alloc (.cells #[Aa Ab 4,Aa Ab (v.w:Int),Aa Ac (v.n:Int)] 210)).alloc (.cells #[.string ⟨s.toArray⟩] 9)).drew:=(hAl.alloc (by simp) _).drew;have HBD:=Hd (Ad HBR.o hob);rw [hj] at HOW⊢;have HOA:=Hd (HOW.o.pure hob);have HIS:=Hd (show Ek ((wr.alloc (.cells #[Aa Ab 4,Aa Ab (v.w:Int),Aa Ac (v.n:Int)] 210)).alloc (.cells #[.string ⟨s.toArray⟩] 9)).drew (some ⟨wr.heap.size+1,0,none⟩) 1 [s] by
     have h:=Ql (f:=It) (wr.alloc (.cells #[Aa Ab 4,Aa Ab (v.w:Int),Aa Ac (v.n:Int)] 210)) 9 s (.string ⟨s.toArray⟩) rfl;rw [I9] at h;exact h.pure ((Below.refl _ _).drew))
    have HJ2:=Hd hj2;clear hIr hv e hj hj2 hs hf ht hAl hob;go_wp2_with fail;go_region_law (refine Q6 rfl (.tmp 35) (.tmp 44) 23 rfl (.string ⟨#[]⟩) 16 (by kernel_rfl) (by kernel_rfl) rfl (by decide) Dg N6 w.heap.size A1 j c1 (ns.take j) rfl HOA.o _ 1 1 [s] rfl HIS.o (by omega) HBD.o.size ?_;intro A2 c2 w2 hown2 hfr2 hat2;have HO4:=Hd hown2;have HB4:=Hd (Bu HBD.o hfr2 (by rintro j ⟨ad,e,rfl⟩;exact(HOA.o.addr ad e).2.1));clear hown2 hfr2 hat2)
    all_goals
     try go_wp2_with fail
     go_roundw
     case rel=>exact⟨2*j+1,by omega,by go_num,A2,c2,by rw [HJ2.o],by rw [HJ2.o,HT.o];exact HO4.o,HB4.o⟩
     case measure=>simp [intOf];omega
   ·have hmod:(k:Int) % 2=1:=by omega
    have HJ2:=Hd (show(k+1+1)/2=(k+1)/2 by omega);have HBA:=Hd (HBR.o.alloc HBR.o.size (.cells #[Aa Ab (v.t:Int),Aa Ab (v.w:Int),Aa Ac (v.n:Int)] 210));have HOA:=Hd (HOW.o.pure ((Below.refl wr.heap.size wr).alloc (Asp _) (.cells #[Aa Ab (v.t:Int),Aa Ab (v.w:Int),Aa Ac (v.n:Int)] 210)));clear hIr hv e;go_wp2_with fail;go_roundw
    case rel=>exact⟨k+1,by omega,by go_num,A1,c1,by rw [HJ2.o],by rw [HJ2.o];exact HOA.o,HBA.o⟩
    case measure=>simp [intOf];omega
  ·obtain rfl:k=2*m:=by omega
   have hm2:(2*m+1)/2=m:=by omega
   have HE:=Hd (show ns.take m=ns from Asy (by have:=HML.o;omega));rw [hm2] at HOW⊢;rw [HE.o] at HOW;clear hIr hm2;go_wp2_with fail;go_ret;obtain rfl:=HML.o;exact⟨A1,c1,rfl,HOW.o,HBR.o⟩
end Go.Proofs.YtgbjodnegkbfoaaGreat
namespace Go.Proofs.YtgbjodnegkbfoaaGreat
open Go.Shelf Go.RowKit Go.Acc
def Sg:Go.Shelf.Ren:=⟨fun|6=>212|14=>314|15=>191|20=>367|21=>368|22=>369|23=>370|24=>371|25=>372|26=>373|27=>374|28=>291|29=>101|46=>397|47=>353|48=>354|49=>398|50=>399|57=>407|n=>n,fun|22=>151|24=>3|25=>52|3=>3|39=>146|0=>0|53=>335|55=>22|4=>4|46=>329|45=>328|50=>118|5=>5|9=>9|66=>368|70=>372|76=>406|77=>336|n=>n,fun|n=>n⟩
theorem Aep:Go.Proofs.SlLaysF.n6 Tryz.prog Sg:={
 mixed:=by kernel_rfl
 f6:=⟨Tryz.f212.name,by decide,Tryz.func212.trans (congrArg some (by kernel_rfl))⟩
 f14:=⟨Tryz.f314.name,by decide,Tryz.func314.trans (congrArg some (by kernel_rfl))⟩
 f15:=Tryz.func191.trans (congrArg some (by kernel_rfl))
 f20:=⟨Tryz.f367.name,by decide,Tryz.func367.trans (congrArg some (by kernel_rfl))⟩
 f21:=⟨Tryz.f368.name,by decide,Tryz.func368.trans (congrArg some (by kernel_rfl))⟩
 f22:=⟨Tryz.f369.name,by decide,Tryz.func369.trans (congrArg some (by kernel_rfl))⟩
 f23:=⟨Tryz.f370.name,by decide,Tryz.func370.trans (congrArg some (by kernel_rfl))⟩
 f24:=⟨Tryz.f371.name,by decide,Tryz.func371.trans (congrArg some (by kernel_rfl))⟩
 f25:=⟨Tryz.f372.name,by decide,Tryz.func372.trans (congrArg some (by kernel_rfl))⟩
 f26:=⟨Tryz.f373.name,by decide,Tryz.func373.trans (congrArg some (by kernel_rfl))⟩
 f27:=⟨Tryz.f374.name,by decide,Tryz.func374.trans (congrArg some (by kernel_rfl))⟩
 f28:=Tryz.func291.trans (congrArg some (by kernel_rfl))
 f29:=Tryz.func101.trans (congrArg some (by kernel_rfl))
 f46:=⟨Tryz.f397.name,by decide,Tryz.func397.trans (congrArg some (by kernel_rfl))⟩
 f47:=Tryz.func353.trans (congrArg some (by kernel_rfl))
 f48:=Tryz.func354.trans (congrArg some (by kernel_rfl))
 f49:=⟨Tryz.f398.name,by decide,Tryz.func398.trans (congrArg some (by kernel_rfl))⟩
 f50:=⟨Tryz.f399.name,by decide,Tryz.func399.trans (congrArg some (by kernel_rfl))⟩
 f57:=⟨Tryz.f407.name,by decide,Tryz.func407.trans (congrArg some (by kernel_rfl))⟩
 t0:=Tryz.underlying0
 a0:=Tryz.isAgg0
 z0:=Tryz.sizeOf0
 v0:=Tryz.zeroValue0
 t3:=Tryz.underlying3
 a3:=Tryz.isAgg3
 z3:=Tryz.sizeOf3
 v3:=Tryz.zeroValue3
 t4:=Tryz.underlying4
 a4:=Tryz.isAgg4
 z4:=Tryz.sizeOf4
 v4:=Tryz.zeroValue4
 t5:=Tryz.underlying5
 a5:=Tryz.isAgg5
 z5:=Tryz.sizeOf5
 v5:=Tryz.zeroValue5
 t9:=Tryz.underlying9
 a9:=Tryz.isAgg9
 z9:=Tryz.sizeOf9
 v9:=Tryz.zeroValue9
 t22:=Tryz.underlying151
 a22:=Tryz.isAgg151
 z22:=Tryz.sizeOf151
 v22:=Tryz.zeroValue151
 a24:=Tryz.isAgg3
 z24:=Tryz.sizeOf3
 t25:=Tryz.underlying52
 a25:=Tryz.isAgg52
 z25:=Tryz.sizeOf52
 v25:=Tryz.zeroValue52
 t39:=Tryz.underlying146
 a39:=Tryz.isAgg146
 z39:=Tryz.sizeOf146
 v39:=Tryz.zeroValue146
 t45:=Tryz.underlying328
 a45:=Tryz.isAgg328
 z45:=Tryz.sizeOf328
 v45:=Tryz.zeroValue328
 t46:=Tryz.underlying329
 a46:=Tryz.isAgg329
 z46:=Tryz.sizeOf329
 v46:=Tryz.zeroValue329
 t50:=Tryz.underlying118
 a50:=Tryz.isAgg118
 z50:=Tryz.sizeOf118
 v50:=Tryz.zeroValue118
 t53:=Tryz.underlying335
 a53:=Tryz.isAgg335
 z53:=Tryz.sizeOf335
 v53:=Tryz.zeroValue335
 t55:=Tryz.underlying22
 a55:=Tryz.isAgg22
 z55:=Tryz.sizeOf22
 v55:=Tryz.zeroValue22
 t66:=Tryz.underlying368
 a66:=Tryz.isAgg368
 z66:=Tryz.sizeOf368
 v66:=Tryz.zeroValue368
 t70:=Tryz.underlying372
 a70:=Tryz.isAgg372
 z70:=Tryz.sizeOf372
 v70:=Tryz.zeroValue372
 t76:=Tryz.underlying406
 a76:=Tryz.isAgg406
 z76:=Tryz.sizeOf406
 v76:=Tryz.zeroValue406
 t77:=Tryz.underlying336
 a77:=Tryz.isAgg336
 z77:=Tryz.sizeOf336
 v77:=Tryz.zeroValue336}
def Amx:Go.Shelf.Ren:=⟨fun|106=>214|213=>315|265=>375|n=>n,fun|3=>3|9=>9|n=>n,fun|n=>n⟩
theorem Ase:Go.Proofs.Lays.n106 Tryz.prog Amx:={
 mixed:=by kernel_rfl
 f106:=Tryz.func214.trans (congrArg some (by kernel_rfl))
 f213:=Tryz.func315.trans (congrArg some (by kernel_rfl))
 f265:=Tryz.func375.trans (congrArg some (by kernel_rfl))
 t3:=Tryz.underlying3
 a3:=Tryz.isAgg3
 z3:=Tryz.sizeOf3
 v3:=Tryz.zeroValue3
 t9:=Tryz.underlying9
 a9:=Tryz.isAgg9
 z9:=Tryz.sizeOf9
 v9:=Tryz.zeroValue9}
theorem Aj5(a b:List UInt8)(w:World):Calls Tryz.prog 214 #[.string ⟨a.toArray⟩,.string ⟨b.toArray⟩] w fun e w'=>e= .returned (Aa Ab (Go.Lib.compareBytes a b))∧w=w':=
 (Any.strings_Compare Ase ⟨a.toArray⟩ ⟨b.toArray⟩ w).mono fun _ _ h=>⟨h.1,h.2.symm⟩
end Go.Proofs.YtgbjodnegkbfoaaGreat
namespace Go.Proofs.YtgbjodnegkbfoaaGreat
open Go.RowKit Go.Acc Go.Sort
theorem Afs:∀(a b:List UInt8),(a<b∧Lib.compareBytes a b= -1)∨(a=b∧Lib.compareBytes a b=0)∨(b<a∧Lib.compareBytes a b=1)
 | [],[]=> .inr (.inl ⟨rfl,rfl⟩)
 | [],_::_=> .inl ⟨List.nil_lt_cons _ _,rfl⟩
 |_::_,[]=> .inr (.inr ⟨List.nil_lt_cons _ _,rfl⟩)
 |x::a,y::b=>by
  unfold Lib.compareBytes;by_cases h1:x<y
  ·exact .inl ⟨List.cons_lt_cons_iff.2 (.inl h1),by rw [if_pos h1]⟩
  ·by_cases h2:y<x
   ·exact .inr (.inr ⟨List.cons_lt_cons_iff.2 (.inl h2),by rw [if_neg h1,if_pos h2]⟩)
   ·have e:x=y:=UInt8.le_antisymm (UInt8.not_lt.1 h2) (UInt8.not_lt.1 h1);subst e;rw [if_neg h1,if_neg h2];rcases Afs a b with⟨h,e⟩|⟨h,e⟩|⟨h,e⟩
    ·exact .inl ⟨List.cons_lt_cons_iff.2 (.inr ⟨rfl,h⟩),e⟩
    ·exact .inr (.inl ⟨by rw [h],e⟩)
    ·exact .inr (.inr ⟨List.cons_lt_cons_iff.2 (.inr ⟨rfl,h⟩),e⟩)
def cfS(l:List (List UInt8))(x y:Fin l.length):Int:=Lib.compareBytes l[x] l[y]
theorem U6(l:List (List UInt8))(x y:Fin l.length):ltOf (cfS l) x y=decide (l[x]<l[y]):=by
 unfold ltOf cfS;rcases Afs l[x] l[y] with⟨h,e⟩|⟨h,e⟩|⟨h,e⟩ <;>rw [e] <;>apply decide_eq_decide.2
 ·exact⟨fun _=>h,fun _=>by decide⟩
 ·exact⟨fun h=>absurd h (by decide),fun h'=>absurd h' (by rw [h];exact List.lt_irrefl _)⟩
 ·exact⟨fun h=>absurd h (by decide),fun h'=>absurd h' (List.lt_asymm h)⟩
theorem Asg(l:List (List UInt8)):SWO (ltOf (cfS l)) where
 irrefl x:=by rw [U6];exact decide_eq_false (List.lt_irrefl _)
 trans x y z h1 h2:=by rw [U6] at *;exact decide_eq_true (List.lt_trans (of_decide_eq_true h1) (of_decide_eq_true h2))
 ntrans x y z h1 h2:=by
  rw [U6] at*;have h1:=of_decide_eq_false h1;have h2:=of_decide_eq_false h2;apply decide_eq_false;intro h;rcases Afs l[x] l[y] with⟨h3,_⟩|⟨h3,_⟩|⟨h3,_⟩
  ·exact h1 h3
  ·rw [h3] at h;exact h2 h
  ·exact h2 (List.lt_trans h3 h)
theorem Agd(bl:Nat)(A:Option Addr)(n c:Nat)(l:List (List UInt8))(x y:Nat)(w:World)(hb:w.cell? ⟨bl,0,none⟩=some (.slice A n c))(hI:Ek w A n l)(hx:x<n)(hy:y<n)(r:Int)(hr:∀hx hy,Lib.compareBytes (l[x]'hx) (l[y]'hy)=r):
  Calls Tryz.prog 213 #[Aa Ab (x:Int),Aa Ab (y:Int),.pointer (some ⟨bl,0,none⟩)] w fun e w'=>e= .returned (Aa Ab r)∧w'=w.drew:=by
 obtain⟨g,off,e,hx',c1⟩:=Fy hI hx;obtain⟨g2,off2,e2,hy',c2⟩:=Fy hI hy;have hr:=hr hx' hy';generalize l[x]=s at c1 hr;generalize l[y]=t at c2 hr;subst e;injection e2 with e2
 injection e2 with e3 e4
 subst e3 e4;have HR:=Hd hr;have hx0:(0:Int)≤(x:Int):=by omega
 have hxn:(x:Int)<(n:Int):=by omega
 have hy0:(0:Int)≤(y:Int):=by omega
 have hyn:(y:Int)<(n:Int):=by omega
 clear hr hI hx' hy';go_enter Tryz.func213,Tryz.ntmps213;go_wp2_with fail;go_region_held3 (fun w'=>w'.cell? ⟨bl,0,none⟩=some (.slice (some ⟨g,off,none⟩) n c)∧w'.cell? ⟨g,off+x,none⟩=some (.string ⟨s.toArray⟩)∧w'.cell? ⟨g,off+y,none⟩=some (.string ⟨t.toArray⟩)) (first|with_reducible exact⟨hb,c1,c2⟩|with_reducible exact⟨Af hb,Af c1,Af c2⟩) (first|(go_at_call 214;(with_reducible refine(Aj5 s t _).mono ?_);rintro e w' ⟨rfl,rfl⟩));go_wp2_with fail;go_ret;exact⟨congrArg (fun z=>Ending.returned (Aa Ab z)) HR.o,rfl⟩
theorem Sc{α:Type}[Inhabited α]{enc:α→Value}{f:α→List Value}(hf:∀x,f x=[enc x]){w:World}{B g n c:Nat}{e:TypeId}{l:List α}(h:Go.Acc.Own f 1 e w B (some ⟨g,0,none⟩) n c l)(d':Array α)(hd:d'.size=n)(m:Nat)(os:Array Obj):
  Go.Acc.Own f 1 e (sortWorld enc w g 0 m d' os) B (some ⟨g,0,none⟩) n c d'.toList∧Fr (fun k=>k=g) w (sortWorld enc w g 0 m d' os):=by
 have hf1:∀x,(f x).length=1:=fun x=>by rw [hf];rfl
 obtain⟨cur,hK,hsz,htake,hnc,hcm,hb⟩:=Pb h.2 rfl;have hlt:=hK.lt;have hblk:(sortWorld enc w g 0 m d' os).heap[g]?=some (.cells (putCells enc 0 d' cur) e (0,0)):=by
  unfold sortWorld putRow mapBlock;rw [heap_grow_old _ _ (by simpa [ahead] using hlt)];have hK':w.heap[g]?=some (.cells cur e (0,0)):=hK;simp [Array.getElem?_modify,hK',onCells]
 refine⟨⟨by simp [hd],?_,.inr ⟨g,c,_,rfl,hb,hblk,hnc,hcm,?_,?_⟩⟩,⟨rfl,rfl,rfl,?_,?_⟩⟩
 ·rw [Bi hf1,Array.length_toList,hd]
 ·unfold putCells;rw [Array.size_mapIdx];exact hsz
 ·have hncs:n*1≤cur.size:=by rw [hsz];exact Nat.mul_le_mul_right _ hnc
  apply List.ext_getElem?;intro j;rw [List.getElem?_take];by_cases hj:j<n*1
  ·have hjd:j<d'.toList.length:=by rw [Array.length_toList,hd];omega
   have h1:=Gr hf1 d'.toList j 0 hjd (by omega);rw [Nat.mul_one,Nat.add_zero] at h1;have h2:(d'.toList.flatMap f)[j]?=some (enc d'[j]!):=by
    rw [h1,hf];simp [getElem!_pos d' j (by rw [←Array.length_toList];exact hjd)]
   rw [if_pos hj,h2];have hjc:j<cur.size:=by omega
   unfold putCells;simp [hd,hjc];omega
  ·rw [if_neg hj,List.getElem?_eq_none];rw [Bi hf1,Array.length_toList,hd];omega
 ·unfold sortWorld;rw [size_grow];simp [putRow,mapBlock]
 ·intro k hk hne;unfold sortWorld putRow mapBlock;rw [heap_grow_old _ _ (by simpa [ahead] using hk)];rw [Array.getElem?_modify,if_neg (fun e=>hne e.symm)];rfl
end Go.Proofs.YtgbjodnegkbfoaaGreat
namespace Go.Proofs.YtgbjodnegkbfoaaGreat
open Go.RowKit Go.Acc
theorem Qm{w:World}{A:Option Addr}{n:Nat}{l:List Nat}(h:Is Jc w A n l){k:Nat}(hk:k<n):
  ∃b off,A=some ⟨b,off,none⟩∧∃hk':k<l.length,w.cell? ⟨b,off+k,none⟩=some (Aa Ab (l[k]:Int)):=by
 obtain⟨b,off,e,hk',hc⟩:=h.at_ E6 (by omega) hk;exact⟨b,off,e,hk',by have:=hc 0 (by omega);simpa [Jc] using this⟩
def Afa(w:World)(n:Nat)(l:List Bv)(e:Ending)(w':World):Prop:=∃A c,e= .returned (.slice A n c)∧E3 w' w.heap.size A n c (l.map vv)∧Below w.heap.size w w'
def M6(l:List Bv)(d:Nat)(p:Nat):Bv:=l.getD (2*p+d) ⟨0,0,0⟩
theorem Um(bp bl d:Nat)(AP:Option Addr)(np cp:Nat)(ps:List Nat)(A:Option Addr)(n c:Nat)(l:List Bv)(w:World)(hp:Ag w bp 151 #[.slice AP np cp])(hl:Ag w bl 185 #[.slice A n c])(hP:Is Jc w AP np ps)(hI:Dx w A n (l.map vv))(hd:d≤1)(hn:np≤1000000)(hps:∀p∈ps,2*p+1<n)(hn2:n≤1000000):
  Calls Tryz.prog 238 #[Aa Ab (d:Int),.pointer (some ⟨bp,0,none⟩),.pointer (some ⟨bl,0,none⟩)] w (Afa w np (ps.map (M6 l d))):=by
 have HP:=Hd hp;have HL:=Hd hl;have HPS:=Hd hps;have HIP:=Hd hP;have HI:=Hd hI;have HLP:=Hd (show ps.length=np by have:=hP.1;simpa using this);have c0:w.cell? ⟨bp,0,none⟩=some (.slice AP np cp):=hp.cell 0;clear hp hl hP hI hps;go_enter Tryz.func238,Tryz.ntmps238;go_wp2_with fail;go_loopw [4,9] (fun s u wr=>∃k:Nat,k≤np∧u= Aa Ab k∧∃A1 c1,s= .slice A1 k c1∧E3 wr w.heap.size A1 k c1 (((ps.take k).map (M6 l d)).map vv)∧Below w.heap.size w wr) (fun _ u _=>np-(intOf u).toNat)
 case atStart=>exact⟨0,Nat.zero_le _,rfl,none,0,rfl,Own.nil _ _,Below.refl _ _⟩
 case round=>
  obtain⟨k,hk,rfl,A1,c1,rfl,how,hbr⟩:=hrel;have HOW:=Hd how;have HBR:=Hd hbr;clear how hbr;by_cases hlt:k<np
  ·obtain⟨g,off,e,hk',v0⟩:=Qm (HIP.o.pure HBR.o) hlt;obtain⟨p,hpp⟩:∃p,ps[k]=p:=⟨_,rfl⟩;rw [hpp] at v0;have hpn:=HPS.o p (by rw [←hpp];exact List.getElem_mem _);obtain⟨q,hq⟩:∃q,2*p+d=q:=⟨_,rfl⟩;have hqn:q<n:=by omega
   obtain⟨g2,off2,v,e2,hv,y0,y1,y2⟩:=Gg (HI.o.pure HBR.o) hqn;have hvp:M6 l d p=v:=by
    unfold M6;rw [hq,As0,hv];rfl
   have HT:=Hd (show(((ps.take (k+1)).map (M6 l d)).map vv)=(((ps.take k).map (M6 l d)).map vv)++ [vv v] by
    rw [Asz hk',hpp,List.map_append,List.map_append,List.map_cons,hvp];rfl)
   have d0:wr.cell? ⟨bp,0,none⟩=some (.slice AP np cp):=(HP.o.pure HBR.o).cell 0;have d1:wr.cell? ⟨bl,0,none⟩=some (.slice A n c):=(HL.o.pure HBR.o).cell 0;have hk0:(0:Int)≤(k:Int):=by omega
   have hkn:(k:Int)<(np:Int):=by omega
   have hq0:(2:Int)*(p:Int)+(d:Int)=(q:Int):=by omega
   have hq1:(0:Int)≤(q:Int):=by omega
   have hq2:(q:Int)<(n:Int):=by omega
   have hp0:(0:Int)≤(p:Int):=by omega
   have hp1:(2:Int)*(p:Int)≤1000000:=by omega
   have HB3:=Hd (HBR.o.alloc HBR.o.size (.cells #[Aa Ab (v.t:Int),Aa Ab (v.w:Int),Aa Ac (v.n:Int)] 210));have HO3:=Hd (HOW.o.pure ((Below.refl wr.heap.size wr).alloc (Asp _) (.cells #[Aa Ab (v.t:Int),Aa Ab (v.w:Int),Aa Ac (v.n:Int)] 210)));have HI3:=Hd (Km wr v);have HEE:=Hd (And.intro e e2);rw [e];rw [e2] at d1;clear hpp hv hvp hk' hq e e2;go_wp2_with (at_builtin;refine Dm _ rfl (.tmp 13) (.tmp 21) _ rfl 210 _ 3 24 Tryz.underlying185 Jv rfl (by omega) Gl J9 _ _ _ _ _ rfl HO3.o _ _ _ _ rfl HI3.o (by omega) HB3.o.size ?_;intro A2 c2 w2 hown2 hfr2 hat2;have HO4:=Hd hown2;have HB4:=Hd (Bu HB3.o hfr2 (by rintro j ⟨ad,e,rfl⟩;exact(HO3.o.addr ad e).2.1));clear hown2 hfr2 hat2);go_roundw
   case rel=>exact⟨k+1,by omega,by go_num,A2,c2,rfl,by rw [HT.o];exact HO4.o,HB4.o⟩
   case measure=>simp [intOf];omega
  ·obtain rfl:k=np:=by omega
   have HE:=Hd (show ps.take k=ps from Asy (by have:=HLP.o;omega));rw [HE.o] at HOW;go_wp2_with fail;go_ret;exact⟨A1,c1,rfl,HOW.o,HBR.o⟩
end Go.Proofs.YtgbjodnegkbfoaaGreat
namespace Go.Proofs.YtgbjodnegkbfoaaGreat
open Go.RowKit Go.Acc Go.Sort
theorem Amf{α:Type}{f:α→List Value}{sz:Nat}{e:TypeId}{w:World}{B g n c:Nat}{l:List α}(h:Go.Acc.Own f sz e w 0 (some ⟨g,0,none⟩) n c l)(hB:B≤g):Go.Acc.Own f sz e w B (some ⟨g,0,none⟩) n c l:=by
 refine⟨h.1,?_⟩;obtain⟨h1,h2⟩:=h.2;refine⟨h1,?_⟩;rcases h2 with h2|⟨g',cap,cur,hv,hb,r⟩
 ·exact .inl h2
 ·injection hv with e1 e2 e3
  injection e1 with e1
  injection e1 with e1
  subst e1;exact .inr ⟨g,cap,cur,by rw [e3],hB,r⟩
theorem Ad6{α β:Type}{f:β→List Value}{v:α→β}{sz:Nat}{e:TypeId}{w:World}{B n c:Nat}{A:Option Addr}{l:List α}:Go.Acc.Own (fun x=>f (v x)) sz e w B A n c l↔Go.Acc.Own f sz e w B A n c (l.map v):=by
 unfold Go.Acc.Own;rw [List.length_map,List.flatMap_map]
theorem Qd(n:Nat):(List.finRange n).map Fin.val=List.range n:=by
 apply List.ext_getElem (by simp);intro i h1 h2;simp
theorem R7{α:Type}(d:Array α)(n:Nat)(h:d.size=n):d.extract 0 n=d:=by
 subst h;simp
theorem Aj9(B g n c bl:Nat)(A:Option Addr)(nc:Nat)(l:List (List UInt8))(w:World)(hb:w.cell? ⟨bl,0,none⟩=some (.slice A n nc))(hI:Ek w A n l)(hn:n≤2147483648)(h:Px w B (some ⟨g,0,none⟩) n c (List.range n))(hbg:bl≠g)(hAg:∀ad,A=some ad→ad.block≠g):
  Calls Tryz.prog 212 #[.slice (some ⟨g,0,none⟩) n c,.func (.func 213) #[] #[.pointer (some ⟨bl,0,none⟩)]] w fun e w'=>e= .returned (.tuple #[])∧∃ps:List Nat,ps.Perm (List.range n)∧(∀(i j:Nat) (hi:i<ps.length) (hj:j<ps.length),i<j→¬l.getD ps[j] []<l.getD ps[i] [])∧Px w' B (some ⟨g,0,none⟩) n c ps∧Fr (fun k=>k=g) w w':=by
 have hl:l.length=n:=by have:=hI.1;simpa using this
 by_cases h0:n=0
 ·subst h0;refine(AnyF.slices_SortFunc_none (ρ:=Sg) { Aep with} (some ⟨g,0,none⟩) c (.func (.func 213) #[] #[.pointer (some ⟨bl,0,none⟩)]) w).mono ?_;rintro e w' ⟨rfl,rfl⟩;exact⟨rfl,[],List.Perm.refl _,fun i j hi=>by simp at hi,h,Fr.refl _ _⟩
 ·subst hl
  haveI:Inhabited (Fin l.length):=⟨⟨0,by omega⟩⟩
  obtain⟨enc,henc⟩:∃enc:Fin l.length→Value,enc=fun i=> Aa Ab ((i.val:Nat):Int):=⟨_,rfl⟩
  have hf:∀x:Fin l.length,Jc x.val=[enc x]:=fun x=>by rw [henc];rfl
  have hown:Go.Acc.Own (fun x:Fin l.length=>Jc x.val) 1 3 w B (some ⟨g,0,none⟩) l.length c (List.finRange l.length):=Ad6.2 (by rw [Qd];exact h);have eg:∀args w,(callFunc 213 args).run Tryz.prog w= .ok (.enter 213 args) w:=enters_of Tryz.func213 (by kernel_rfl) rfl;have hsz:(List.finRange l.length).toArray.size=l.length:=by simp
  have hlay:CmpReads Tryz.prog 213 #[.pointer (some ⟨bl,0,none⟩)] enc (cfS l) g 0 (List.finRange l.length).toArray.size w:=by
   intro m os dk hdk x y;have hfr:=(Sc hf hown dk (by rw [hdk,hsz]) m os).2;have e2:=Agd bl A l.length nc l x.val y.val _ (B4 hfr hb hbg) (hI.fr hfr hAg) x.isLt y.isLt (cfS l x y) (fun _ _=>rfl);have e3: #[enc x,enc y]++ #[Value.pointer (some ⟨bl,0,none⟩)]=#[Aa Ab ((x.val:Nat):Int),Aa Ab ((y.val:Nat):Int),.pointer (some ⟨bl,0,none⟩)]:=by rw [henc];rfl
   rw [e3];exact e2.mono fun e w' h=>⟨h.1,1,h.2⟩
  have hlt:g<w.heap.size:=(Pb hown.2 rfl).elim fun _ h=>h.1.lt
  have hH:Holds enc w g 0 (List.finRange l.length).toArray:=by
   intro j hj;have hj':j<(List.finRange l.length).length:=by simpa using hj
   obtain⟨b,off,e1,h3⟩:=Rd.of_own hown.2 j (enc (List.finRange l.length).toArray[j]!) (by
    have h1:=Gr (f:=fun x:Fin l.length=>Jc x.val) (sz:=1) (fun _=>rfl) (List.finRange l.length) j 0 hj' (by omega);rw [Nat.mul_one,Nat.add_zero] at h1;rw [h1,getElem!_pos _ j hj,hf];simp)
   injection e1 with e1
   injection e1 with e1 e2
   subst e1 e2;refine⟨h3,?_⟩;rw [Nat.zero_add];exact J1 hown.2 j
  have hs:=Any.slices_SortFunc Aep enc (fun x=>by rw [henc];rfl) (cfS l) (Asg l) 213 #[.pointer (some ⟨bl,0,none⟩)] g 0 c (List.finRange l.length).toArray w eg hlay.lays hH hlt (by omega);rw [hsz] at hs;change Calls Tryz.prog 212 _ _ _ at hs;refine hs.mono ?_;rintro e w' ⟨rfl,d,m,os,hp,hsd,rfl⟩;have hdn:d.size=l.length:=by rw [hp.1,hsz]
  obtain⟨h1,h2⟩:=Sc hf hown d hdn m os;refine⟨rfl,d.toList.map Fin.val,?_,?_,Ad6.1 h1,h2⟩
  ·have h3:=hp.2.2;rw [R7 d _ hdn,R7 _ _ hsz] at h3;have h4:=h3.map Fin.val;simpa [Qd] using h4
  ·intro i j hi hj hij;rw [List.length_map,Array.length_toList] at hi hj;have h4:=hsd i j (Nat.zero_le _) hij (by omega);rw [U6,getElem!_pos d j hj,getElem!_pos d i hi] at h4;have h5:=of_decide_eq_false h4;have e1:∀(k:Nat) (hk:k<d.size) hk',l.getD ((d.toList.map Fin.val)[k]'hk') []=l[d[k]]:=by
    intro k hk hk';rw [List.getElem_map,As0];simp
   rw [e1 i hi,e1 j hj];exact h5
end Go.Proofs.YtgbjodnegkbfoaaGreat
