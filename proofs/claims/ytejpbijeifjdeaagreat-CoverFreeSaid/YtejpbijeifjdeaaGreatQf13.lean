/- Parts of the proof. -/
import Derived.Test.YtejpbijeifjdeaaGreatQf12
import Derived.Shelf.SlSortCmp.NoneTotal
import Derived.Shelf.Small.Strs
import Derived.Ground.SlsfProg
import Derived.Ground.NamesProg
import Derived.Shelf.SlSortCmp.WholeK
set_option maxHeartbeats 4000000
set_option maxRecDepth 100000
open Go.Value renaming int→Aa
open Go.IntKind renaming i64→Ab,u64→Ac
open Nat renaming le_refl→Ae,zero_le→Ak,zero_add→Av,lt_of_lt_of_le→Ax
open Go.RowKit.Below renaming refl→Af
open List renaming getElem?_eq_getElem→Ag,replicate→Al,length_map→As,length_take→Az,take_of_length_le→Bb,take_succ_eq_append_getElem→Bc,getD_eq_getElem?_getD→Be,getElem?_eq_none→Bg
open Go.Proofs.Tryz
open Go.Proofs.Tryz renaming prog→Ad
namespace Go.Proofs.YtejpbijeifjdeaaGreat
variable {k B g n c sz:Nat}{s:List UInt8}{w:World}{o:Nat→Nat}{α:Type}{e:TypeId}{A:Option Addr}
section
open Go.RowKit Go.Acc
theorem Z0(f:Nat):∀(l:List (List UInt8)) (s:List UInt8) (b:Bd),b.puts f (l++ [s])=(((b.puts f l).1.put f s).1,(b.puts f l).2++ [((b.puts f l).1.put f s).2])
 | [],s,b=>by simp [Bd.puts]
 |x::r,s,b=>by
  rw [List.cons_append];simp only [Bd.puts,Z0 f r s,List.cons_append]
theorem xT(f:Nat)(s:List UInt8)(b:Bd):(b.put f s).1.b.length≤b.b.length+s.length+1∧(b.put f s).1.keys.length≤b.keys.length+1∧(b.put f s).1.names.length≤b.names.length+1∧(b.put f s).1.s=b.s:=by
 unfold Bd.put;have h:=Rj b.keys s b.b.length;cases(if Fq f 1=true then Cf b.keys s else none) with
 |some a=>exact⟨by simp;omega,by simp,by simp,rfl⟩
 |none=>exact⟨by simp;omega,by simpa using h,by simp,rfl⟩
theorem S3(l m:List (List UInt8)):Cc (l++m)=Cc l+Cc m:=by
 induction l with
 |nil=>simp [Cc]
 |cons s r ih=>simp only [List.cons_append,Cc,ih];omega
theorem Zy(f:Nat)(l:List (List UInt8))(b:Bd):(b.puts f l).1.b.length≤b.b.length+Cc l∧(b.puts f l).1.keys.length≤b.keys.length+l.length∧(b.puts f l).1.names.length≤b.names.length+l.length∧(b.puts f l).1.s=b.s:=by
 induction l generalizing b with
 |nil=>simp [Bd.puts,Cc]
 |cons s r ih=>
  obtain⟨d,e,g,a⟩:=xT f s b;obtain⟨h,i,j,c⟩:=ih (b.put f s).1;simp only [Bd.puts,Cc,List.length_cons];exact⟨by omega,by omega,by omega,c.trans a⟩
structure Tt(b:Bd)(l:List (List UInt8)):Prop where
 st:b.s.length<65536
 len:b.b.length+Cc l≤1048576
 ky:b.keys.length+l.length≤1048575
 nm:b.names.length+l.length≤1048575
theorem Tt.at_{b:Bd}{l:List (List UInt8)}(h:Tt b l)(f:Nat)(hs:l[k]?=some s):Qk (b.puts f (l.take k)).1 s:=by
 obtain⟨i,a,c,d⟩:=Zy f (l.take k) b;have g:k<l.length:=(List.getElem?_eq_some_iff.1 hs).1;have e:l=l.take k++s::l.drop (k+1):=by
  have h1:=(List.getElem?_eq_some_iff.1 hs).2
  conv=>lhs;rw [←List.take_append_drop k l,List.drop_eq_getElem_cons g,h1]
 have j:Cc l=Cc (l.take k)+(s.length+20+Cc (l.drop (k+1))):=by
  conv=>lhs;rw [e]
  rw [S3];rfl
 rw [Az,Nat.min_eq_left (by omega)] at a c;have h1:=h.len;have h2:=h.ky;have h3:=h.nm;exact⟨by rw [d];exact h.st,by omega,by omega,by omega⟩
theorem yQ{I S:Nat→Prop}{w' w'':World}{o':Nat→Nat}(h:To I w o w' o')(hf:Fr S w' w'')(hS:∀k,S k→w.heap.size≤k)(i:Nat):To I w o w'' (Br o' w'.heap.size i):=
 ⟨h.fr.trans hf (fun k hk hs=>absurd (hS k hs) (by omega)),fun k hk=>by rw [B4 (Ax hk h.size)];exact h.ow k hk⟩
def zX(M:Bp)(fl:Int)(w:World)(o:Nat→Nat)(n:Nat)(x:Bd×List Bv)(e:Ending)(w':World):Prop:=
 ∃A c,e= .returned (.slice A n c)∧Gg w' w.heap.size A n c (x.2.map vv)∧∃o',BM M fl w' o' x.1∧To Dd w o w' o'∧∀ad,A=some ad→o' ad.block=0
theorem sR(M:Bp)(fl:Int)(b:Bd)(A:Option Addr)(n c:Nat)(l:List (List UInt8))(w:World)(o:Nat→Nat)(h:BM M fl w o b)(hI:Fs w A n l)(ho:∀ad,A=some ad→ad.block<w.heap.size∧o ad.block=0)(hn:n≤1000000)(hr:Tt b l)(hz:∀s∈l,Ci s=false):
  Calls Ad 195 #[.func (.func 196) #[Afh M.β] #[],.slice A n c] w (zX M fl w o n (b.puts (bits fl) l)):=by
 obtain⟨f,hf⟩:∃f,bits fl=f:=⟨_,rfl⟩;have HF:=Hd hf;have HM:=Hd h;have HI:=Hd hI;have E:=Hd ho;have HR:=Hd hr;have HZ:=Hd hz;have HL:=Hd hI.1;rw [hf];clear h hI ho hr hz hf;go_enter func195,ntmps195;go_wp2_with fail;go_loopw [4,9] (fun s u wr=>∃k:Nat,k≤n∧u= Aa Ab k∧∃A1 c1,s= .slice A1 k c1∧Gg wr w.heap.size A1 k c1 ((b.puts f (l.take k)).2.map vv)∧∃o',BM M fl wr o' (b.puts f (l.take k)).1∧To Dd w o wr o'∧(∀ad,A1=some ad→o' ad.block=0)∧Fs wr A n l∧w.heap.size≤wr.heap.size) (fun _ u _=>n-(intOf u).toNat)
 case atStart=>exact⟨0,Ak _,rfl,none,0,rfl,Own.nil _ _,o,by rw [List.take_zero];exact HM.o,To.refl _ _ _,(fun ad h=>by cases h),HI.o,Ae _⟩
 case round=>
  obtain⟨k,hk,rfl,A1,c1,rfl,U,o',hm,ht,T,hi,V⟩:=hrel;have r:=Hd U;have B:=Hd hm;have F:=Hd ht;have D:=Hd T;have ap:=Hd V;have K:=Hd hi;clear U hm ht T V hi HM HI;by_cases az:k<n
  ·obtain⟨g,bh,e,H,hc⟩:=G4 K.o az;obtain⟨s,W⟩:∃s,l[k]=s:=⟨_,rfl⟩;rw [W] at hc;have J:l[k]?=some s:=by rw [Ag H,W]
   have am:=Hd (HR.o.at_ f J);have aw:=Hd (HZ.o s (List.mem_of_getElem? J));have HT:=Hd (show b.puts f (l.take (k+1))=(((b.puts f (l.take k)).1.put f s).1,(b.puts f (l.take k)).2++ [((b.puts f (l.take k)).1.put f s).2]) by
    rw [Bc H,W,Z0])
   have bf:(0:Int)≤(k:Int):=by omega
   have bg:(k:Int)<(n:Int):=by omega
   have G:=Y9 M fl _ s wr o' B.o am.o aw.o;rw [HF.o] at G;have Z:=Hd G;have al:=Hd (show ∀ad,A=some ad→o' ad.block=0 from fun ad h=>(F.o.ow _ (E.o ad h).1).trans (E.o ad h).2);have aa:=Hd e;rw [e];clear W J H G e;go_wp2_with fail;go_at_call 196;refine Z.o.mono ?_;rintro x z ⟨a,ha,rfl,X,S,p⟩;have Y:=Hd ha;have ah:=Hd S;have aq:=Hd (F.o.trans p);have L:=Hd (r.o.fr p.fr (fun ad h=>by rw [D.o ad h];exact Cl));have N:=Hd (show ∀ad,A1=some ad→X ad.block=0 from fun ad h=>(p.ow _ (r.o.addr ad h).2.2).trans (D.o ad h));have ab:=Hd (K.o.fr p.fr (fun ad h=>by rw [al.o ad h];exact Cl));have an:=Hd (Nat.le_trans ap.o p.size);clear ha S p hc;have m:=(Af z.heap.size z).alloc (Ae _) (.cells #[Aa Ab ((⟨4,1,a⟩:Bv).t:Int),Aa Ab ((⟨4,1,a⟩:Bv).w:Int),Aa Ac ((⟨4,1,a⟩:Bv).n:Int)] 169);have ai:=Hd (ah.o.fresh m 0);have ar:=Hd (aq.o.trans (To.fresh Dd m X 0));have C:=Hd (L.o.pure m);have ae:=Hd (ab.o.pure m);have v:=Hd (show ∀ad,A1=some ad→Br X z.heap.size 0 ad.block=0 from fun ad h=>by rw [B4 (L.o.addr ad h).2.2];exact N.o ad h);have P:=Hd (show ∀ad,A=some ad→ad.block<w.heap.size from fun ad h=>(E.o ad h).1);have Q:=Hd (Nat.le_trans an.o m.size);have ag:=Hd (Mk z ⟨4,1,a⟩);clear m;go_wp2_with (at_builtin;refine Eb _ rfl (.tmp 13) (.tmp 17) _ rfl 169 _ 3 24 underlying144 Lr rfl (by omega) Ij L8 _ _ _ _ _ rfl C.o _ _ _ _ rfl ag.o (by omega) Q.o ?_;intro A4 c4 w4 q d y);have av:=Hd (show ∀ad,A1=some ad→ad.block<(z.alloc (.cells #[Aa Ab ((⟨4,1,a⟩:Bv).t:Int),Aa Ab ((⟨4,1,a⟩:Bv).w:Int),Aa Ac ((⟨4,1,a⟩:Bv).n:Int)] 169)).heap.size from fun ad h=>(C.o.addr ad h).2.2);have R:=Hd (show ∀j,(∃ad,A1=some ad∧j=ad.block)→w.heap.size≤j by rintro j ⟨ad,e,rfl⟩;exact(C.o.addr ad e).2.1);have ak:=Hd q;have aj:=Hd (ai.o.to_ (To.of_fr (I:=fun i=>i=0) d (by rintro j _ ⟨ad,e,rfl⟩;exact v.o ad e) 0) (fun i hi e=>by subst e;exact Cl hi));have au:=Hd (yQ ar.o d R.o 0);have af:=Hd (show Fs w4 A n l from ae.o.fr d (by rintro ad h ⟨ax,e',h'⟩;have h1:=P.o ad h;have h2:=R.o ad.block ⟨ax,e',h'⟩;omega));have O:=Hd (show ∀ad,A4=some ad→Br (Br X z.heap.size 0) (z.alloc (.cells #[Aa Ab ((⟨4,1,a⟩:Bv).t:Int),Aa Ab ((⟨4,1,a⟩:Bv).w:Int),Aa Ac ((⟨4,1,a⟩:Bv).n:Int)] 169)).heap.size 0 ad.block=0 from fun ad h=>by
    subst h;rcases y with h1|h1
    ·cases hA1:A1 with
     |none=>rw [hA1] at h1;cases h1
     |some ad1=>
      rw [hA1] at h1;have h2:ad.block=ad1.block:=by simpa using h1
      rw [h2,B4 (av.o ad1 hA1)];exact v.o ad1 hA1
    ·have h2:ad.block=(z.alloc (.cells #[Aa Ab ((⟨4,1,a⟩:Bv).t:Int),Aa Ab ((⟨4,1,a⟩:Bv).w:Int),Aa Ac ((⟨4,1,a⟩:Bv).n:Int)] 169)).heap.size:=by injection h1
     rw [h2];exact Bt (Ae _))
   have ao:=Hd (Nat.le_trans Q.o d.size);clear q d y;go_wp2_with fail;go_roundw
   case rel=>
    refine⟨k+1,by omega,by go_num,A4,c4,rfl,?_,_,?_,au.o,O.o,by rw [←aa.o];exact af.o,ao.o⟩
    ·rw [HT.o,Y.o,List.map_append];exact ak.o
    ·rw [HT.o];exact aj.o
   case measure=>simp [intOf];omega
  ·obtain rfl:k=n:=by omega
   have HE:=Hd (show l.take k=l from Bb (by have:=HL.o;omega));rw [HE.o] at r B;go_wp2_with fail;go_ret;exact⟨A1,c1,rfl,r.o,o',B.o,F.o,D.o⟩
theorem Zj{l:List UInt8}{ks:List (List UInt8)}{vs:List Bv}(h:Dp l ks vs)(hl:l.length+40+9*ks.length≤1048576):E5 vs l∧∀v∈vs,v.t=4:=by
 have a:∀v∈vs,∃s,Gc l s v:=by
  intro v hv;obtain⟨i,b,e⟩:=List.getElem_of_mem hv;have c:i<ks.length:=by rw [←h.1];exact b
  exact⟨ks[i],h.2 i ks[i] v (Ag c) (by rw [Ag b,e])⟩
 exact⟨⟨fun v hv=>by obtain⟨s,h1,_⟩:=a v hv;rw [h1];decide,fun v hv=>by obtain⟨s,_,h2,_⟩:=a v hv;rw [h2];decide,h.fit,by rw [h.1];exact hl⟩,
  fun v hv=>by obtain⟨s,h1,_⟩:=a v hv;exact h1⟩
theorem iC(M:Bp)(fl:Int)(b:Bd)(A:Option Addr)(n c:Nat)(l:List (List UInt8))(bx bl:Nat)(w:World)(o:Nat→Nat)(h:BM M fl w o b)(hx:Bk w bx 104 #[Afh M.β])(hb:Bk w bl 31 #[.slice A n c])(hox:o bx=0)(hob:o bl=0)
  (hI:Fs w A n l) (ho:∀ad,A=some ad→ad.block<w.heap.size∧o ad.block=0) (hn:n≤1000000) (hr:Tt b l) (hz:∀s∈l,Ci s=false) (hg:Dr b) (hl:b.b.length+Cc l+40+9*l.length≤1048576):
  Calls Ad 194 #[Afh bx,Afh bl] w (Dq M fl ((b.puts (bits fl) l).1.vec 14 true false (b.puts (bits fl) l).2) w o):=by
 obtain⟨f,T⟩:∃f,bits fl=f:=⟨_,rfl⟩;have j:=sR M fl b A n c l w.drew o h.drew hI ho hn hr hz;rw [T] at j⊢;obtain⟨Q,D,t⟩:=Rk f l b hg;obtain⟨g1,g2,g3,g4⟩:=Zy f l b;obtain⟨k,i⟩:=Zj D (by omega);obtain⟨x,E⟩:∃x,b.puts f l=x:=⟨_,rfl⟩;rw [E] at j k i t⊢;obtain⟨p,vs⟩:=x;have J:=Hd j;have Z:=Hd k;have Y:=Hd i;have L:=Hd (show p.s.length<65536 by rw [show p.s=b.s from t];exact hr.st);have K:=Hd (fun(A2:Option Addr) (c2:Nat)=>(show Ns M p.b 4 0 A2 n c2 vs ((Cd 14 true false vs p.b).1,(Cd 14 true false vs p.b).2) from Ua (e:=4) k (.inl ⟨rfl,.inr (.inr (.inl rfl))⟩) i));have S:=Hd hx;have R:=Hd hb;have d:=Hd (And.intro hox hob);have W:w.cell? ⟨bx,0,none⟩=some (Afh M.β):=hx.cell 0;have X:w.cell? ⟨bl,0,none⟩=some (.slice A n c):=hb.cell 0;clear h hx hb hox hob hI ho hr hz hg hl j k i t Q D g1 g2 g3 g4 T E;go_enter func194,ntmps194;go_wp2_with fail;go_region_held3 (fun w'=>w'.cell? ⟨bx,0,none⟩=some (Afh M.β)∧w'.cell? ⟨bl,0,none⟩=some (.slice A n c)) (first|with_reducible exact⟨W,X⟩|with_reducible exact⟨Bj W,Bj X⟩|with_reducible exact⟨y0,y1⟩|with_reducible exact⟨z0,z1⟩) (first|(go_at_call 195;(with_reducible refine J.o.mono ?_);rintro e U ⟨A2,c2,rfl,B,o2,y,C,v⟩;have a:=C.from_drew;have r:=S.o.to_ a (by rw [d.o.1];exact Cl);have q:=R.o.to_ a (by rw [d.o.2];exact Cl);have y0:U.cell? ⟨bx,0,none⟩=some (Afh M.β):=r.cell 0;have y1:U.cell? ⟨bl,0,none⟩=some (.slice A n c):=q.cell 0;have P:=Hd r;have G:=Hd q;have m:=Hd (And.intro ((a.ow _ S.o.lt).trans d.o.1) ((a.ow _ R.o.lt).trans d.o.2));have H:=Hd y;have N:=Hd a;have u:=Hd B;have F:=Hd v;clear C a r q B y v)|(go_at_call 186;(with_reducible refine(Jh M fl p 4 0 A2 n c2 vs (Cd 14 true false vs p.b).1 (Cd 14 true false vs p.b).2 _ o2 H.o u.o.is (fun ad e=>⟨(u.o.addr ad e).2.2,F.o ad e⟩) L.o (K.o A2 c2)).mono ?_);rintro e V ⟨rfl,o3,z,g⟩;have z0:V.cell? ⟨bx,0,none⟩=some (Afh M.β):=(P.o.to_ g (by rw [m.o.1];exact Cl)).cell 0;have z1:V.cell? ⟨bl,0,none⟩=some (.slice A n c):=(G.o.to_ g (by rw [m.o.2];exact Cl)).cell 0;have I:=Hd z;have O:=Hd (N.o.trans g);clear z g));go_wp2_with fail;go_end0;exact⟨rfl,o3,I.o,O.o⟩
theorem mN(M:Bp)(fl:Int)(b:Bd)(A:Option Addr)(n c:Nat)(l:List (List UInt8))(w:World)(o:Nat→Nat)(h:BM M fl w o b)
  (hI:Fs w A n l) (ho:∀ad,A=some ad→ad.block<w.heap.size∧o ad.block=0) (hn:n≤1000000) (hr:Tt b l) (hz:∀s∈l,Ci s=false) (hg:Dr b) (hl:b.b.length+Cc l+40+9*l.length≤1048576):
  Calls Ad 117 #[Afh M.β,.slice A n c] w (Dq M fl ((b.puts (bits fl) l).1.vec 14 true false (b.puts (bits fl) l).2) w o):=by
 have a:=Bu w (.cells #[Afh M.β] 104) (.cells #[.slice A n c] 31);have f:=Hd a;have i:=Hd (h.fresh a 0);have g:=Hd (iC M fl b A n c l w.heap.size (w.heap.size+1) _ (Br o w.heap.size 0) (h.fresh a 0) ((Bk.new w 104 #[Afh M.β]).alloc _) (Db w _ 31 #[.slice A n c]) (Bt (by omega)) (Bt (by omega))
  (hI.pure a) (fun ad e=>⟨by have h1:=(ho ad e).1;have h2:=a.size;omega,by rw [B4 (ho ad e).1];exact(ho ad e).2⟩) hn hr hz hg hl)
 clear h hI ho hr hz hg hl a;go_enter func117,ntmps117;go_wp2_with fail;go_at_call 193;refine(Ej M fl 194 _ _ (Br o w.heap.size 0) b.vals _ i.o.head Tryz.call194 (g.o.mono fun e w' h=>⟨h.1,h⟩)).mono ?_;rintro e w' d;obtain rfl:=d.1;have j:=Hd (d.from_fresh f.o);clear d;go_wp2;go_end0;exact j.o
theorem Y4(M:Bp)(fl:Int)(b:Bd)(k:Nat)(w:World)(o:Nat→Nat)(h:BM M fl w o b)(hk:b.s.length=k):Calls Ad 198 #[Afh M.β] w (Afd (Aa Ab (k:Int)) w):=by
 have c:=Hd h;have a:=Hd hk;obtain⟨f,g,i,j,_⟩:=h.head.cells;clear h hk;go_enter func198,ntmps198;go_wp2_with (go_at_call 129;refine(Qr M.β _ (by assumption)).mono ?_;rintro e d ⟨rfl,rfl⟩);go_at_call 284;refine(Abt M.sb k b.s _ o c.o.stk a.o).mono ?_;rintro e d ⟨rfl,rfl⟩;go_wp2_with fail;go_ret;exact⟨rfl,rfl⟩
theorem qO(M:Bp)(fl:Int)(b:Bd)(k:Nat)(w:World)(o:Nat→Nat)(h:BM M fl w o b)(hk:b.s.length=k):Calls Ad 122 #[Afh M.β] w (Afd (Aa Ab (k:Int)) w):=by
 go_enter func122,ntmps122;go_wp2_with fail;go_at_call 198;refine(Y4 M fl b k _ o h hk).mono ?_;rintro e w' ⟨rfl,rfl⟩;go_wp2_with fail;go_ret;exact⟨rfl,rfl⟩
theorem qF(M:Bp)(fl:Int)(b:Bd)(k:Nat)(w:World)(o:Nat→Nat)(h:BM M fl w o b)(hk:b.s.length=k):Calls Ad 124 #[Afh M.β] w (Afd (Aa Ab (k:Int)) w):=by
 go_enter func124,ntmps124;go_wp2_with fail;go_at_call 198;refine(Y4 M fl b k _ o h hk).mono ?_;rintro e w' ⟨rfl,rfl⟩;go_wp2_with fail;go_ret;exact⟨rfl,rfl⟩
def Ad5(w:World)(l:List Bv)(e:Ending)(w':World):Prop:=∃A c,e= .returned (.slice A l.length c)∧Gg w' w.heap.size A l.length c (l.map vv)∧Below w.heap.size w w'
theorem V9(M:Bp)(fl:Int)(b:Bd)(k:Nat)(w:World)(o:Nat→Nat)(h:BM M fl w o b)(hk:k≤b.s.length):Calls Ad 200 #[Afh M.β,Aa Ab (k:Int)] w (Ad5 w (b.s.drop k)):=by
 have j:=Hd h;have i:=Hd hk;obtain⟨p,q,r,t,_⟩:=h.head.cells;clear h hk;go_enter func200,ntmps200;go_wp2_with fail;go_at_call 130;refine(fR M.sb k b.s _ o j.o.stk i.o).mono ?_;rintro e u ⟨A,n,c,rfl,a,d⟩;have f:n=(b.s.drop k).length:=by have:=a.1;simpa using this.symm
 have l:=Hd f;have m:=Hd a;have g:=Hd d;clear f a d p q r t;go_wp2_with fail;go_ret;obtain rfl:=l.o;exact⟨A,c,rfl,m.o,g.o⟩
theorem dF(M:Bp)(fl:Int)(b:Bd)(k bx bk:Nat)(w:World)(o:Nat→Nat)(h:BM M fl w o b)(hx:Bk w bx 104 #[Afh M.β])(hb:Bk w bk 3 #[Aa Ab (k:Int)])(hox:o bx=0)(hk:k≤b.s.length)(hs:b.s.length≤65536)(hks:k<65536)(hok:E5 (b.s.drop k) b.b):
  Calls Ad 199 #[Afh bx,Afh bk] w (Dq M fl (b.endVec k) w o):=by
 have L:=Hd h;have R:=Hd hk;have N:=Hd hx;have C:=Hd hox;have B:=Hd hok;have E:=Hd hs;obtain⟨m,K⟩:∃m,(b.s.drop k).length=m:=⟨_,rfl⟩;have y:=Hd K;have r:m≤b.s.length∧b.s.length-m=k:=by rw [List.length_drop] at K;omega
 have g:=Hd r;have F:=Hd (show(b.s.take k).length<65536 by rw [Az];omega);have t:w.cell? ⟨bx,0,none⟩=some (Afh M.β):=hx.cell 0;have Z:w.cell? ⟨bk,0,none⟩=some (Aa Ab (k:Int)):=hb.cell 0;clear h hx hb hox hok K r;go_enter func199,ntmps199;go_wp2_with fail;go_at_call 200;refine(V9 M fl b k _ o L.o R.o).mono ?_;rintro e P ⟨A,c,rfl,p,hb⟩;rw [y.o] at p⊢;have S:=Hd p;have d:=Hd (show ∀ad,A=some ad→ad.block<P.heap.size∧Br o w.heap.size 0 ad.block=0 from fun ad e=>⟨(p.addr ad e).2.2,Bt (p.addr ad e).2.1⟩);have f:=Hd (L.o.fresh hb 0);have l:=Hd (N.o.pure hb);have G:=Hd (To.fresh Dd hb o 0);have j:=Hd (show Br o w.heap.size 0 bx=0 by rw [B4 N.o.lt];exact C.o);clear p hb t Z;have t:P.cell? ⟨bx,0,none⟩=some (Afh M.β):=l.o.cell 0;obtain⟨T,U,V,X,_⟩:=f.o.head.cells;go_wp2_with fail;go_at_call 201;refine(lC M.sb m b.s _ _ f.o.stk g.o.1 (by have:=E.o;have:=g.o.1;omega)).mono ?_;rintro e Q ⟨⟨A2,n2,W,rfl⟩,O,i,a⟩;rw [g.o.2] at i;have v:=Hd (f.o.stk_ a i);have H:=Hd (G.o.trans (a.mono fun _ h=>mC h));have J:=Hd (l.o.to_ a (by rw [j.o];omega));have z:=Hd (S.o.fr a.fr (fun ad e=>by rw [(d.o ad e).2];omega));have u:=Hd (show ∀ad,A=some ad→ad.block<Q.heap.size∧O ad.block=0 from fun ad e=>⟨Ax (d.o ad e).1 a.size,(a.ow _ (d.o ad e).1).trans (d.o ad e).2⟩);clear i a t T U V X;have t:Q.cell? ⟨bx,0,none⟩=some (Afh M.β):=J.o.cell 0;have D:=Hd (show Ns M b.b (-1) 0 A m c (b.s.drop k) ((Cd 10 true true (b.s.drop k) b.b).1,(Cd 10 true true (b.s.drop k) b.b).2) from Abi B.o);go_wp2_with fail;go_at_call 186;refine(Jh M fl { b with s:=b.s.take k} (-1) 0 A m c (b.s.drop k) _ _ _ O v.o z.o.is u.o F.o D.o).mono ?_;rintro e w3 ⟨rfl,Y,n,q⟩;have x:=Hd n;have I:=Hd (H.o.trans q);clear n q t;go_wp2_with fail;go_end0;exact⟨rfl,Y,x.o,I.o⟩
theorem iO(M:Bp)(fl:Int)(b:Bd)(k:Nat)(w:World)(o:Nat→Nat)(h:BM M fl w o b)(hk:k≤b.s.length)(hs:b.s.length≤65536)(hks:k<65536)(hok:E5 (b.s.drop k) b.b):
  Calls Ad 123 #[Afh M.β,Aa Ab (k:Int)] w (Dq M fl (b.endVec k) w o):=by
 have a:=Bu w (.cells #[Afh M.β] 104) (.cells #[Aa Ab (k:Int)] 3);have d:=Hd a;have g:=Hd (h.fresh a 0);have f:=Hd (dF M fl b k w.heap.size (w.heap.size+1) _ (Br o w.heap.size 0) (h.fresh a 0) ((Bk.new w 104 #[Afh M.β]).alloc _) (Db w _ 3 #[Aa Ab (k:Int)]) (Bt (by omega)) hk hs hks hok);clear h hk hs hks hok a;go_enter func123,ntmps123;go_wp2_with fail;go_at_call 193;refine(Ej M fl 199 _ _ (Br o w.heap.size 0) b.vals _ g.o.head Tryz.call199 (f.o.mono fun e w' h=>⟨h.1,h⟩)).mono ?_;rintro e w' c;obtain rfl:=c.1;have i:=Hd (c.from_fresh d.o);clear c;go_wp2;go_end0;exact i.o
def pJ(names:List (Nat×List UInt8))(ns:List (List UInt8))(l:List Bv):Prop:=
 l.length=2*ns.length∧∀(i:Nat) s v,ns[i]?=some s→l[2*i]?=some v→v.t=4∧names.find? (fun x=>x.1==v.n)=some (v.n,s)∧v.n<18446744073709551616
theorem oN{v:Value}{ps:List MemPlace}(h:plainElem (H:=Unit) Ad 9 v=some (.lit (.string s),ps)):v= .string ⟨s.toArray⟩:=by
 unfold plainElem at h;rw [underlying9] at h;cases v <;>simp at h
 next b=>
  obtain⟨_,h⟩:=h;obtain⟨b⟩:=b;obtain⟨h,_⟩:=h;simp at h;subst h;rfl
theorem M3.look{p a:Nat}{m:List (Nat×List UInt8)}(h:M3 w o p m)(ha:a<18446744073709551616)(hf:m.find? (fun x=>x.1==a)=some (a,s)):
  (Instr.lookup 143 (.map (some p)) (Aa Ac (a:Int)) false).run Ad w= .ok (.string ⟨s.toArray⟩) w:=by
 obtain⟨_,n,D,e,_,c⟩:=h;have f:(zeroValue 9).run Ad w= .ok (.string ⟨#[]⟩) w:=by kernel_rfl
 obtain⟨v,g,b,d⟩:=e.lookup P5 underlying143 f (show plainElem Ad 9 (.string ⟨#[]⟩)=some (.lit (.string []),[]) by kernel_rfl) (Maps.keyOf_int_mk underlying26 (Xx a ha));rw [c a s hf] at d;rw [oN d] at b;exact b
def Acf(w:World)(ns:List (List UInt8))(e:Ending)(w':World):Prop:=∃A c,e= .returned (.slice A ns.length c)∧Md w' w.heap.size A ns.length c ns∧Below w.heap.size w w'
theorem Hl.map_cell{M:Bp}{fl:Int}{vals:List Bv}(h:Hl M fl w o vals):w.cell? ⟨M.β,7,none⟩=some (.map (some M.mb)):=by
 obtain⟨A,n,c,hb,_⟩:=h;exact hb.cell 7
theorem oB(M:Bp)(fl:Int)(b:Bd)(A:Option Addr)(n c:Nat)(l:List Bv)(ns:List (List UInt8))(w:World)(o:Nat→Nat)(h:BM M fl w o b)(hI:Fh w A n (l.map vv))(hn:n≤1000000)(hv:pJ b.names ns l):
  Calls Ad 205 #[Afh M.β,.slice A n c] w (Acf w ns):=by
 have HM:=Hd h;have HI:=Hd hI;have HV:=Hd hv.2;have HL:=Hd (show l.length=n by have:=hI.1;simpa using this);obtain⟨m,X⟩:∃m,ns.length=m:=⟨_,rfl⟩;have z:=Hd X;have S:n=2*m:=by have:=hv.1;have:=HL.o;omega
 subst S;have W:((2*m:Nat):Int) % 2=0:=by omega
 clear h hI hv X;go_enter func205,ntmps205;go_wp2_with fail;go_loopw [4,9] (fun s u wr=>∃k:Nat,k≤2*m∧u= Aa Ab k∧∃A1 c1,s= .slice A1 ((k+1)/2) c1∧Md wr w.heap.size A1 ((k+1)/2) c1 (ns.take ((k+1)/2))∧Below w.heap.size w wr) (fun _ u _=>2*m-(intOf u).toNat)
 case atStart=>exact⟨0,Ak _,rfl,none,0,rfl,Own.nil _ _,Af _ _⟩
 case round=>
  obtain⟨k,hk,rfl,A1,c1,rfl,J,x⟩:=hrel;have a:=Hd J;have p:=Hd x;have r:=HI.o.pure x;have O:=Hd (HM.o.pure x);clear J x;by_cases R:k<2*m
  ·obtain⟨g,ap,v,e,hv,v0,v1,v2⟩:=Ia r R;have ak:(0:Int)≤(k:Int):=by omega
   have al:(k:Int)<((2*m:Nat):Int):=by omega
   rw [e];rcases Nat.mod_two_eq_zero_or_one k with hp|hp
   ·obtain⟨j,rfl⟩:∃j,k=2*j:=⟨k/2,by omega⟩;have V:(2*j+1)/2=j:=by omega
    have G:(2*j+1+1)/2=j+1:=by omega
    have Q:j<ns.length:=by have:=z.o;omega
    obtain⟨s,T⟩:∃s,ns[j]?=some s:=⟨_,Ag Q⟩;obtain⟨ht,U,ha⟩:=HV.o j s v T hv;have I:(((2*j:Nat)):Int) % 2=0:=by omega
    have HT:=Hd (show ns.take (j+1)=ns.take j++ [s] by
     obtain⟨q1,q2⟩:=List.getElem?_eq_some_iff.1 T;rw [Bc q1,q2])
    have ao:(v.t:Int)=4:=by omega
    have B:=(Af wr.heap.size wr).alloc (Ae _) (.cells #[Aa Ab 4,Aa Ab (v.w:Int),Aa Ac (v.n:Int)] 169);have E:=Hd (O.o.pure B);have am:(Instr.lookup 143 (.map (some M.mb)) (Aa Ac (v.n:Int)) false).run Ad (wr.alloc (.cells #[Aa Ab 4,Aa Ab (v.w:Int),Aa Ac (v.n:Int)] 169)).drew= .ok (.string ⟨s.toArray⟩) (wr.alloc (.cells #[Aa Ab 4,Aa Ab (v.w:Int),Aa Ac (v.n:Int)] 169)).drew:=E.o.drew.names.look ha U;have cm:(wr.alloc (.cells #[Aa Ab 4,Aa Ab (v.w:Int),Aa Ac (v.n:Int)] 169)).drew.cell? ⟨M.β,7,none⟩=some (.map (some M.mb)):=E.o.drew.head.map_cell;have C:Below wr.heap.size wr ((wr.alloc (.cells #[Aa Ab 4,Aa Ab (v.w:Int),Aa Ac (v.n:Int)] 169)).alloc (.cells #[.string ⟨s.toArray⟩] 9)).drew:=(B.alloc (by simp) _).drew;have D:=Hd (Bi p.o C);rw [V] at a⊢;have q:=Hd (a.o.pure C);have N:=Hd (show Fs ((wr.alloc (.cells #[Aa Ab 4,Aa Ab (v.w:Int),Aa Ac (v.n:Int)] 169)).alloc (.cells #[.string ⟨s.toArray⟩] 9)).drew (some ⟨wr.heap.size+1,0,none⟩) 1 [s] by
     have h:=S0 (f:=Ke) (wr.alloc (.cells #[Aa Ab 4,Aa Ab (v.w:Int),Aa Ac (v.n:Int)] 169)) 9 s (.string ⟨s.toArray⟩) rfl;rw [Ku] at h;exact h.pure ((Af _ _).drew))
    have d:=Hd G;clear r hv e V G T U ht B C;go_wp2_with fail;go_region_law (refine Th rfl (.tmp 35) (.tmp 44) 31 rfl (.string ⟨#[]⟩) 16 (by kernel_rfl) (by kernel_rfl) rfl (by decide) Ei Qi w.heap.size A1 j c1 (ns.take j) rfl q.o _ 1 1 [s] rfl N.o (by omega) D.o.size ?_;intro Y c2 w2 i y F;have P:=Hd i;have K:=Hd (Cq D.o y (by rintro j ⟨ad,e,rfl⟩;exact(q.o.addr ad e).2.1));clear i y F)
    all_goals
     try go_wp2_with fail
     go_roundw
     case rel=>exact⟨2*j+1,by omega,by go_num,Y,c2,by rw [d.o],by rw [d.o,HT.o];exact P.o,K.o⟩
     case measure=>simp [intOf];omega
   ·have I:(k:Int) % 2=1:=by omega
    have d:=Hd (show(k+1+1)/2=(k+1)/2 by omega);have L:=Hd (p.o.alloc p.o.size (.cells #[Aa Ab (v.t:Int),Aa Ab (v.w:Int),Aa Ac (v.n:Int)] 169));have q:=Hd (a.o.pure ((Af wr.heap.size wr).alloc (Ae _) (.cells #[Aa Ab (v.t:Int),Aa Ab (v.w:Int),Aa Ac (v.n:Int)] 169)));clear r hv e;go_wp2_with fail;go_roundw
    case rel=>exact⟨k+1,by omega,by go_num,A1,c1,by rw [d.o],by rw [d.o];exact q.o,L.o⟩
    case measure=>simp [intOf];omega
  ·obtain rfl:k=2*m:=by omega
   have H:(2*m+1)/2=m:=by omega
   have Z:=Hd (show ns.take m=ns from Bb (by have:=z.o;omega));rw [H] at a⊢;rw [Z.o] at a;clear r H;go_wp2_with fail;go_ret;obtain rfl:=z.o;exact⟨A1,c1,rfl,a.o,p.o⟩
end
section
open Go.Shelf Go.RowKit Go.Acc
def Ur:Go.Shelf.Ren:=⟨fun|6=>240|14=>299|15=>157|20=>337|21=>338|22=>339|23=>340|24=>341|25=>342|26=>343|27=>344|28=>261|29=>66|46=>358|47=>314|48=>315|49=>359|50=>360|57=>361|n=>n,fun|22=>118|24=>3|25=>47|3=>3|39=>103|0=>0|53=>296|55=>26|4=>4|46=>290|45=>289|50=>183|5=>5|9=>9|66=>327|70=>331|76=>358|77=>297|n=>n,fun|n=>n⟩
theorem lB:Go.Proofs.SlLaysF.n6 Ad Ur:={
 mixed:=by kernel_rfl
 f6:=⟨Tryz.f240.name,by decide,func240.trans (congrArg some (by kernel_rfl))⟩
 f14:=⟨Tryz.f299.name,by decide,func299.trans (congrArg some (by kernel_rfl))⟩
 f15:=func157.trans (congrArg some (by kernel_rfl))
 f20:=⟨Tryz.f337.name,by decide,func337.trans (congrArg some (by kernel_rfl))⟩
 f21:=⟨Tryz.f338.name,by decide,func338.trans (congrArg some (by kernel_rfl))⟩
 f22:=⟨Tryz.f339.name,by decide,func339.trans (congrArg some (by kernel_rfl))⟩
 f23:=⟨Tryz.f340.name,by decide,func340.trans (congrArg some (by kernel_rfl))⟩
 f24:=⟨Tryz.f341.name,by decide,func341.trans (congrArg some (by kernel_rfl))⟩
 f25:=⟨Tryz.f342.name,by decide,func342.trans (congrArg some (by kernel_rfl))⟩
 f26:=⟨Tryz.f343.name,by decide,func343.trans (congrArg some (by kernel_rfl))⟩
 f27:=⟨Tryz.f344.name,by decide,func344.trans (congrArg some (by kernel_rfl))⟩
 f28:=func261.trans (congrArg some (by kernel_rfl))
 f29:=func66.trans (congrArg some (by kernel_rfl))
 f46:=⟨Tryz.f358.name,by decide,func358.trans (congrArg some (by kernel_rfl))⟩
 f47:=func314.trans (congrArg some (by kernel_rfl))
 f48:=func315.trans (congrArg some (by kernel_rfl))
 f49:=⟨Tryz.f359.name,by decide,func359.trans (congrArg some (by kernel_rfl))⟩
 f50:=⟨Tryz.f360.name,by decide,func360.trans (congrArg some (by kernel_rfl))⟩
 f57:=⟨Tryz.f361.name,by decide,func361.trans (congrArg some (by kernel_rfl))⟩
 t0:=underlying0
 a0:=isAgg0
 z0:=sizeOf0
 v0:=zeroValue0
 t3:=underlying3
 a3:=isAgg3
 z3:=sizeOf3
 v3:=zeroValue3
 t4:=underlying4
 a4:=isAgg4
 z4:=sizeOf4
 v4:=zeroValue4
 t5:=underlying5
 a5:=isAgg5
 z5:=sizeOf5
 v5:=zeroValue5
 t9:=underlying9
 a9:=isAgg9
 z9:=sizeOf9
 v9:=zeroValue9
 t22:=underlying118
 a22:=isAgg118
 z22:=sizeOf118
 v22:=zeroValue118
 a24:=isAgg3
 z24:=sizeOf3
 t25:=underlying47
 a25:=isAgg47
 z25:=sizeOf47
 v25:=zeroValue47
 t39:=underlying103
 a39:=isAgg103
 z39:=sizeOf103
 v39:=zeroValue103
 t45:=underlying289
 a45:=isAgg289
 z45:=sizeOf289
 v45:=zeroValue289
 t46:=underlying290
 a46:=isAgg290
 z46:=sizeOf290
 v46:=zeroValue290
 t50:=underlying183
 a50:=isAgg183
 z50:=sizeOf183
 v50:=zeroValue183
 t53:=underlying296
 a53:=isAgg296
 z53:=sizeOf296
 v53:=zeroValue296
 t55:=underlying26
 a55:=isAgg26
 z55:=sizeOf26
 v55:=zeroValue26
 t66:=underlying327
 a66:=isAgg327
 z66:=sizeOf327
 v66:=zeroValue327
 t70:=underlying331
 a70:=isAgg331
 z70:=sizeOf331
 v70:=zeroValue331
 t76:=underlying358
 a76:=isAgg358
 z76:=sizeOf358
 v76:=zeroValue358
 t77:=underlying297
 a77:=isAgg297
 z77:=sizeOf297
 v77:=zeroValue297}
def xZ:Go.Shelf.Ren:=⟨fun|106=>242|213=>300|265=>345|n=>n,fun|3=>3|9=>9|n=>n,fun|n=>n⟩
theorem Ae3:Go.Proofs.Lays.n106 Ad xZ:={
 mixed:=by kernel_rfl
 f106:=func242.trans (congrArg some (by kernel_rfl))
 f213:=func300.trans (congrArg some (by kernel_rfl))
 f265:=func345.trans (congrArg some (by kernel_rfl))
 t3:=underlying3
 a3:=isAgg3
 z3:=sizeOf3
 v3:=zeroValue3
 t9:=underlying9
 a9:=isAgg9
 z9:=sizeOf9
 v9:=zeroValue9}
theorem tQ(a b:List UInt8)(w:World):Calls Ad 242 #[.string ⟨a.toArray⟩,.string ⟨b.toArray⟩] w (Afd (Aa Ab (Go.Lib.compareBytes a b)) w):=
 (Any.strings_Compare Ae3 ⟨a.toArray⟩ ⟨b.toArray⟩ w).mono fun _ _ h=>⟨h.1,h.2.symm⟩
end
end Go.Proofs.YtejpbijeifjdeaaGreat
namespace Go.Acc
open Go.RowKit Go.Sort Go.Proofs
section
variable {α:Type} [Inhabited α] {f:α→List Value} {sz:Nat} {w:World} {B g n c:Nat} {e:TypeId} {l:List α}
theorem Ri{v:Value}{xs:List Value}(h:w.ownsRow B e sz v n xs)(hv:v= .slice (some ⟨g,0,none⟩) n c):∃cur,Bk w g e cur∧cur.size=c*sz∧cur.toList.take (n*sz)=xs∧n≤c∧c≤maxLen∧B≤g:=by
 subst hv;rcases h.2 with⟨hv,_⟩|⟨g',cap,cur,hv,hb,hg,hnc,hcm,hcs,htake⟩
 ·cases hv
 ·injection hv with h1 h2 h3
  injection h1 with h1
  injection h1 with h1
  subst h1 h3;exact⟨cur,hg,hcs,htake,hnc,hcm,hb⟩
theorem dM(hf:∀x,(f x).length=sz)(hz:0<sz)(d:Array α)(j:Nat)(hj:j<d.size*sz):(d.toList.flatMap f)[j]?=some (flatK f sz d)[j]! :=by
 have a:j/sz<d.toList.length:=by rw [Array.length_toList];exact Nat.div_lt_of_lt_mul (by rw [Nat.mul_comm];exact hj)
 have b:j % sz<sz:=Nat.mod_lt _ hz;have h1:=Ip hf d.toList (j/sz) (j % sz) a b;rw [show j/sz*sz+j % sz=j by rw [Nat.mul_comm];exact Nat.div_add_mod j sz] at h1;rw [h1,get_flatK _ _ _ _ hj];have c:d[j/sz]! =d.toList[j/sz]:=by
  rw [getElem!_pos d _ (by rw [←Array.length_toList];exact a)];rfl
 rw [c,getElem!_pos _ _ (by rw [hf];exact b)];exact Ag _
theorem own_holds(hf:∀x,(f x).length=sz)(hz:0<sz)(h:Own f sz e w B (some ⟨g,0,none⟩) n c l):HoldsK f sz w g 0 l.toArray:=by
 intro j hj;rw [size_flatK] at hj;have h1:=dM hf hz l.toArray j hj;have h2:=Rd.of_own h.2 j _ h1;obtain⟨b,off,e1,h3⟩:=h2;injection e1 with e1
 injection e1 with e1 e2
 subst e1 e2;refine⟨h3,?_⟩;rw [Av];exact Lv h.2 j
theorem oF(hf:∀x,(f x).length=sz)(hz:0<sz)(h:Own f sz e w B (some ⟨g,0,none⟩) n c l)(d':Array α)(hd:d'.size=n)(m:Nat)(os:Array Obj):
  Own f sz e (sortWorldK f sz w g 0 m d' os) B (some ⟨g,0,none⟩) n c d'.toList∧Fr (fun k=>k=g) w (sortWorldK f sz w g 0 m d' os):=by
 obtain⟨a,v,i,u,d,q,z⟩:=Ri h.2 rfl;have s:=v.lt;have b:(sortWorldK f sz w g 0 m d' os).heap[g]?=some (.cells (putCells id 0 (flatK f sz d') a) e (0,0)):=by
  unfold sortWorldK putRowK putRow mapBlock;rw [heap_grow_old _ _ (by simpa [ahead] using s)];have p:w.heap[g]?=some (.cells a e (0,0)):=v;simp [Array.getElem?_modify,p,onCells]
 refine⟨⟨by simp [hd],?_,.inr ⟨g,c,_,rfl,z,b,d,q,?_,?_⟩⟩,⟨rfl,rfl,rfl,?_,?_⟩⟩
 ·rw [Cm hf,Array.length_toList,hd]
 ·unfold putCells;rw [Array.size_mapIdx];exact i
 ·have y:n*sz≤a.size:=by rw [i];exact Nat.mul_le_mul_right _ d
  apply List.ext_getElem?;intro j;rw [List.getElem?_take];by_cases o:j<n*sz
  ·rw [if_pos o,dM hf hz d' j (by rw [hd];exact o)];have r:j<a.size:=by omega
   unfold putCells;simp [size_flatK,hd,o,r]
  ·rw [if_neg o,Bg];rw [Cm hf,Array.length_toList,hd];omega
 ·unfold sortWorldK;rw [size_grow];simp [putRowK,putRow,mapBlock]
 ·intro k A t;unfold sortWorldK putRowK putRow mapBlock;rw [heap_grow_old _ _ (by simpa [ahead] using A)];rw [Array.getElem?_modify,if_neg (fun e=>t e.symm)];rfl
end
end Go.Acc
namespace Go.Proofs.YtejpbijeifjdeaaGreat
variable {k B g n c sz:Nat}{s:List UInt8}{w:World}{o:Nat→Nat}{α:Type}{e:TypeId}{A:Option Addr}
section
open Go.RowKit Go.Acc Go.Sort
theorem mP:∀(a b:List UInt8),(a<b∧Lib.compareBytes a b= -1)∨(a=b∧Lib.compareBytes a b=0)∨(b<a∧Lib.compareBytes a b=1)
 | [],[]=> .inr (.inl ⟨rfl,rfl⟩)
 | [],_::_=> .inl ⟨List.nil_lt_cons _ _,rfl⟩
 |_::_,[]=> .inr (.inr ⟨List.nil_lt_cons _ _,rfl⟩)
 |x::a,y::b=>by
  unfold Lib.compareBytes;by_cases h1:x<y
  ·exact .inl ⟨List.cons_lt_cons_iff.2 (.inl h1),by rw [if_pos h1]⟩
  ·by_cases h2:y<x
   ·exact .inr (.inr ⟨List.cons_lt_cons_iff.2 (.inl h2),by rw [if_neg h1,if_pos h2]⟩)
   ·have e:x=y:=UInt8.le_antisymm (UInt8.not_lt.1 h2) (UInt8.not_lt.1 h1);subst e;rw [if_neg h1,if_neg h2];rcases mP a b with⟨h,e⟩|⟨h,e⟩|⟨h,e⟩
    ·exact .inl ⟨List.cons_lt_cons_iff.2 (.inr ⟨rfl,h⟩),e⟩
    ·exact .inr (.inl ⟨by rw [h],e⟩)
    ·exact .inr (.inr ⟨List.cons_lt_cons_iff.2 (.inr ⟨rfl,h⟩),e⟩)
def jN(l:List (List UInt8))(x y:Fin l.length):Int:=Lib.compareBytes l[x] l[y]
theorem Xa(l:List (List UInt8))(x y:Fin l.length):ltOf (jN l) x y=decide (l[x]<l[y]):=by
 unfold ltOf jN;rcases mP l[x] l[y] with⟨h,e⟩|⟨h,e⟩|⟨h,e⟩ <;>rw [e] <;>apply decide_eq_decide.2
 ·exact⟨fun _=>h,fun _=>by decide⟩
 ·exact⟨fun h=>absurd h (by decide),fun h'=>absurd h' (by rw [h];exact List.lt_irrefl _)⟩
 ·exact⟨fun h=>absurd h (by decide),fun h'=>absurd h' (List.lt_asymm h)⟩
theorem Ae5(l:List (List UInt8)):SWO (ltOf (jN l)) where
 irrefl x:=by rw [Xa];exact decide_eq_false (List.lt_irrefl _)
 trans x y z h1 h2:=by rw [Xa] at *;exact decide_eq_true (List.lt_trans (of_decide_eq_true h1) (of_decide_eq_true h2))
 ntrans x y z h1 h2:=by
  rw [Xa] at*;have h1:=of_decide_eq_false h1;have h2:=of_decide_eq_false h2;apply decide_eq_false;intro h;rcases mP l[x] l[y] with⟨h3,_⟩|⟨h3,_⟩|⟨h3,_⟩
  ·exact h1 h3
  ·rw [h3] at h;exact h2 h
  ·exact h2 (List.lt_trans h3 h)
theorem nR(bl:Nat)(A:Option Addr)(n c:Nat)(l:List (List UInt8))(x y:Nat)(w:World)(hb:w.cell? ⟨bl,0,none⟩=some (.slice A n c))(hI:Fs w A n l)(hx:x<n)(hy:y<n)(r:Int)(hr:∀hx hy,Lib.compareBytes (l[x]'hx) (l[y]'hy)=r):
  Calls Ad 241 #[Aa Ab (x:Int),Aa Ab (y:Int),Afh bl] w fun e w'=>e= .returned (Aa Ab r)∧w'=w.drew:=by
 obtain⟨g,a,e,b,c1⟩:=G4 hI hx;obtain⟨q,h,f,d,c2⟩:=G4 hI hy;have hr:=hr b d;generalize l[x]=s at c1 hr;generalize l[y]=t at c2 hr;subst e;injection f with f
 injection f with e3 e4
 subst e3 e4;have i:=Hd hr;have j:(0:Int)≤(x:Int):=by omega
 have k:(x:Int)<(n:Int):=by omega
 have m:(0:Int)≤(y:Int):=by omega
 have p:(y:Int)<(n:Int):=by omega
 clear hr hI b d;go_enter func241,ntmps241;go_wp2_with fail;go_region_held3 (fun w'=>w'.cell? ⟨bl,0,none⟩=some (.slice (some ⟨g,a,none⟩) n c)∧w'.cell? ⟨g,a+x,none⟩=some (.string ⟨s.toArray⟩)∧w'.cell? ⟨g,a+y,none⟩=some (.string ⟨t.toArray⟩)) (first|with_reducible exact⟨hb,c1,c2⟩|with_reducible exact⟨Bj hb,Bj c1,Bj c2⟩) (first|(go_at_call 242;(with_reducible refine(tQ s t _).mono ?_);rintro e w' ⟨rfl,rfl⟩));go_wp2_with fail;go_ret;exact⟨congrArg (fun z=>Ending.returned (Aa Ab z)) i.o,rfl⟩
theorem Un[Inhabited α]{enc:α→Value}{f:α→List Value}(hf:∀x,f x=[enc x]){l:List α}(h:Go.Acc.Own f 1 e w B (some ⟨g,0,none⟩) n c l)(d':Array α)(hd:d'.size=n)(m:Nat)(os:Array Obj):
  Go.Acc.Own f 1 e (sortWorld enc w g 0 m d' os) B (some ⟨g,0,none⟩) n c d'.toList∧Fr (fun k=>k=g) w (sortWorld enc w g 0 m d' os):=by
 have b:∀x,(f x).length=1:=fun x=>by rw [hf];rfl
 obtain⟨a,y,p,v,o,r,C⟩:=Ri h.2 rfl;have t:=y.lt;have d:(sortWorld enc w g 0 m d' os).heap[g]?=some (.cells (putCells enc 0 d' a) e (0,0)):=by
  unfold sortWorld putRow mapBlock;rw [heap_grow_old _ _ (by simpa [ahead] using t)];have q:w.heap[g]?=some (.cells a e (0,0)):=y;simp [Array.getElem?_modify,q,onCells]
 refine⟨⟨by simp [hd],?_,.inr ⟨g,c,_,rfl,C,d,o,r,?_,?_⟩⟩,⟨rfl,rfl,rfl,?_,?_⟩⟩
 ·rw [Cm b,Array.length_toList,hd]
 ·unfold putCells;rw [Array.size_mapIdx];exact p
 ·have A:n*1≤a.size:=by rw [p];exact Nat.mul_le_mul_right _ o
  apply List.ext_getElem?;intro j;rw [List.getElem?_take];by_cases z:j<n*1
  ·have i:j<d'.toList.length:=by rw [Array.length_toList,hd];omega
   have h1:=Ip b d'.toList j 0 i (by omega);rw [Nat.mul_one,Nat.add_zero] at h1;have h2:(d'.toList.flatMap f)[j]?=some (enc d'[j]!):=by
    rw [h1,hf];simp [getElem!_pos d' j (by rw [←Array.length_toList];exact i)]
   rw [if_pos z,h2];have s:j<a.size:=by omega
   unfold putCells;simp [hd,s];omega
  ·rw [if_neg z,Bg];rw [Cm b,Array.length_toList,hd];omega
 ·unfold sortWorld;rw [size_grow];simp [putRow,mapBlock]
 ·intro k D u;unfold sortWorld putRow mapBlock;rw [heap_grow_old _ _ (by simpa [ahead] using D)];rw [Array.getElem?_modify,if_neg (fun e=>u e.symm)];rfl
end
section
open Go.RowKit Go.Acc
theorem S1{l:List Nat}(h:Is K4 w A n l)(hk:k<n):
  ∃b off,A=some ⟨b,off,none⟩∧∃hk':k<l.length,w.cell? ⟨b,off+k,none⟩=some (Aa Ab (l[k]:Int)):=by
 obtain⟨b,off,e,hk',hc⟩:=h.at_ Gs (by omega) hk;exact⟨b,off,e,hk',by have:=hc 0 (by omega);simpa [K4] using this⟩
def lX(w:World)(n:Nat)(l:List Bv)(e:Ending)(w':World):Prop:=∃A c,e= .returned (.slice A n c)∧Gg w' w.heap.size A n c (l.map vv)∧Below w.heap.size w w'
def Pf(l:List Bv)(d:Nat)(p:Nat):Bv:=l.getD (2*p+d) ⟨0,0,0⟩
theorem Wk(bp bl d:Nat)(AP:Option Addr)(np cp:Nat)(ps:List Nat)(A:Option Addr)(n c:Nat)(l:List Bv)(w:World)(hp:Bk w bp 118 #[.slice AP np cp])(hl:Bk w bl 144 #[.slice A n c])(hP:Is K4 w AP np ps)(hI:Fh w A n (l.map vv))(hd:d≤1)(hn:np≤1000000)(hps:∀p∈ps,2*p+1<n)(hn2:n≤1000000):
  Calls Ad 206 #[Aa Ab (d:Int),Afh bp,Afh bl] w (lX w np (ps.map (Pf l d))):=by
 have U:=Hd hp;have T:=Hd hl;have I:=Hd hps;have F:=Hd hP;have S:=Hd hI;have G:=Hd (show ps.length=np by have:=hP.1;simpa using this);have c0:w.cell? ⟨bp,0,none⟩=some (.slice AP np cp):=hp.cell 0;clear hp hl hP hI hps;go_enter func206,ntmps206;go_wp2_with fail;go_loopw [4,9] (fun s u wr=>∃k:Nat,k≤np∧u= Aa Ab k∧∃A1 c1,s= .slice A1 k c1∧Gg wr w.heap.size A1 k c1 (((ps.take k).map (Pf l d)).map vv)∧Below w.heap.size w wr) (fun _ u _=>np-(intOf u).toNat)
 case atStart=>exact⟨0,Ak _,rfl,none,0,rfl,Own.nil _ _,Af _ _⟩
 case round=>
  obtain⟨k,hk,rfl,A1,c1,rfl,B,y⟩:=hrel;have i:=Hd B;have a:=Hd y;clear B y;by_cases K:k<np
  ·obtain⟨g,aj,e,z,v0⟩:=S1 (F.o.pure a.o) K;obtain⟨p,f⟩:∃p,ps[k]=p:=⟨_,rfl⟩;rw [f] at v0;have af:=I.o p (by rw [←f];exact List.getElem_mem _);obtain⟨q,M⟩:∃q,2*p+d=q:=⟨_,rfl⟩;have L:q<n:=by omega
   obtain⟨g2,O,v,J,N,y0,y1,y2⟩:=Ia (S.o.pure a.o) L;have C:Pf l d p=v:=by
    unfold Pf;rw [M,Be,N];rfl
   have V:=Hd (show(((ps.take (k+1)).map (Pf l d)).map vv)=(((ps.take k).map (Pf l d)).map vv)++ [vv v] by
    rw [Bc z,f,List.map_append,List.map_append,List.map_cons,C];rfl)
   have d0:wr.cell? ⟨bp,0,none⟩=some (.slice AP np cp):=(U.o.pure a.o).cell 0;have Y:wr.cell? ⟨bl,0,none⟩=some (.slice A n c):=(T.o.pure a.o).cell 0;have Z:(0:Int)≤(k:Int):=by omega
   have aa:(k:Int)<(np:Int):=by omega
   have ag:(2:Int)*(p:Int)+(d:Int)=(q:Int):=by omega
   have ah:(0:Int)≤(q:Int):=by omega
   have ai:(q:Int)<(n:Int):=by omega
   have ab:(0:Int)≤(p:Int):=by omega
   have ae:(2:Int)*(p:Int)≤1000000:=by omega
   have m:=Hd (a.o.alloc a.o.size (.cells #[Aa Ab (v.t:Int),Aa Ab (v.w:Int),Aa Ac (v.n:Int)] 169));have r:=Hd (i.o.pure ((Af wr.heap.size wr).alloc (Ae _) (.cells #[Aa Ab (v.t:Int),Aa Ab (v.w:Int),Aa Ac (v.n:Int)] 169)));have E:=Hd (Mk wr v);have R:=Hd (And.intro e J);rw [e];rw [J] at Y;clear f N C z M e J;go_wp2_with (at_builtin;refine Eb _ rfl (.tmp 13) (.tmp 21) _ rfl 169 _ 3 24 underlying144 Lr rfl (by omega) Ij L8 _ _ _ _ _ rfl r.o _ _ _ _ rfl E.o (by omega) m.o.size ?_;intro P X w2 b h x;have H:=Hd b;have D:=Hd (Cq m.o h (by rintro j ⟨W,e,rfl⟩;exact(r.o.addr W e).2.1));clear b h x);go_roundw
   case rel=>exact⟨k+1,by omega,by go_num,P,X,rfl,by rw [V.o];exact H.o,D.o⟩
   case measure=>simp [intOf];omega
  ·obtain rfl:k=np:=by omega
   have Q:=Hd (show ps.take k=ps from Bb (by have:=G.o;omega));rw [Q.o] at i;go_wp2_with fail;go_ret;exact⟨A1,c1,rfl,i.o,a.o⟩
end
section
open Go.RowKit Go.Acc Go.Sort
theorem xE{f:α→List Value}{l:List α}(h:Go.Acc.Own f sz e w 0 (some ⟨g,0,none⟩) n c l)(hB:B≤g):Go.Acc.Own f sz e w B (some ⟨g,0,none⟩) n c l:=by
 refine⟨h.1,?_⟩;obtain⟨h1,h2⟩:=h.2;refine⟨h1,?_⟩;rcases h2 with h2|⟨i,a,b,d,j,r⟩
 ·exact .inl h2
 ·injection d with e1 e2 e3
  injection e1 with e1
  injection e1 with e1
  subst e1;exact .inr ⟨g,a,b,by rw [e3],hB,r⟩
theorem kF{β:Type}{f:β→List Value}{v:α→β}{l:List α}:Go.Acc.Own (fun x=>f (v x)) sz e w B A n c l↔Go.Acc.Own f sz e w B A n c (l.map v):=by
 unfold Go.Acc.Own;rw [As,List.flatMap_map]
theorem Ss(n:Nat):(List.finRange n).map Fin.val=List.range n:=by
 apply List.ext_getElem (by simp);intro i h1 h2;simp
theorem Ui(d:Array α)(n:Nat)(h:d.size=n):d.extract 0 n=d:=by
 subst h;simp
theorem tU(B g n c bl:Nat)(A:Option Addr)(nc:Nat)(l:List (List UInt8))(w:World)(hb:w.cell? ⟨bl,0,none⟩=some (.slice A n nc))(hI:Fs w A n l)(hn:n≤2147483648)(h:R8 w B (some ⟨g,0,none⟩) n c (List.range n))(hbg:bl≠g)(hAg:∀ad,A=some ad→ad.block≠g):
  Calls Ad 240 #[.slice (some ⟨g,0,none⟩) n c,.func (.func 241) #[] #[Afh bl]] w fun e w'=>e= .returned (.tuple #[])∧∃ps:List Nat,ps.Perm (List.range n)∧(∀(i j:Nat) (hi:i<ps.length) (hj:j<ps.length),i<j→¬l.getD ps[j] []<l.getD ps[i] [])∧R8 w' B (some ⟨g,0,none⟩) n c ps∧Fr (fun k=>k=g) w w':=by
 have P:l.length=n:=by have:=hI.1;simpa using this
 by_cases h0:n=0
 ·subst h0;refine(AnyF.slices_SortFunc_none (ρ:=Ur) { lB with} (some ⟨g,0,none⟩) c (.func (.func 241) #[] #[Afh bl]) w).mono ?_;rintro e w' ⟨rfl,rfl⟩;exact⟨rfl,[],List.Perm.refl _,fun i j hi=>by simp at hi,h,Fr.refl _ _⟩
 ·subst P
  haveI:Inhabited (Fin l.length):=⟨⟨0,by omega⟩⟩
  obtain⟨enc,o⟩:∃enc:Fin l.length→Value,enc=fun i=> Aa Ab ((i.val:Nat):Int):=⟨_,rfl⟩
  have C:∀x:Fin l.length,K4 x.val=[enc x]:=fun x=>by rw [o];rfl
  have a:Go.Acc.Own (fun x:Fin l.length=>K4 x.val) 1 3 w B (some ⟨g,0,none⟩) l.length c (List.finRange l.length):=kF.2 (by rw [Ss];exact h);have M:∀args w,(callFunc 241 args).run Ad w= .ok (.enter 241 args) w:=enters_of func241 (by kernel_rfl) rfl;have p:(List.finRange l.length).toArray.size=l.length:=by simp
  have t:CmpReads Ad 241 #[Afh bl] enc (jN l) g 0 (List.finRange l.length).toArray.size w:=by
   intro m I K z x y;have s:=(Un C a K (by rw [z,p]) m I).2;have v:=nR bl A l.length nc l x.val y.val _ (C0 s hb hbg) (hI.fr s hAg) x.isLt y.isLt (jN l x y) (fun _ _=>rfl);have L: #[enc x,enc y]++ #[Afh bl]=#[Aa Ab ((x.val:Nat):Int),Aa Ab ((y.val:Nat):Int),Afh bl]:=by rw [o];rfl
   rw [L];exact v.mono fun e w' h=>⟨h.1,1,h.2⟩
  have F:g<w.heap.size:=(Ri a.2 rfl).elim fun _ h=>h.1.lt
  have O:Holds enc w g 0 (List.finRange l.length).toArray:=by
   intro j hj;have E:j<(List.finRange l.length).length:=by simpa using hj
   obtain⟨b,Q,q,h3⟩:=Rd.of_own a.2 j (enc (List.finRange l.length).toArray[j]!) (by
    have h1:=Ip (f:=fun x:Fin l.length=>K4 x.val) (sz:=1) (fun _=>rfl) (List.finRange l.length) j 0 E (by omega);rw [Nat.mul_one,Nat.add_zero] at h1;rw [h1,getElem!_pos _ j hj,C];simp)
   injection q with q
   injection q with q v
   subst q v;refine⟨h3,?_⟩;rw [Av];exact Lv a.2 j
  have G:=Any.slices_SortFunc lB enc (fun x=>by rw [o];rfl) (jN l) (Ae5 l) 241 #[Afh bl] g 0 c (List.finRange l.length).toArray w M t.lays O F (by omega);rw [p] at G;change Calls Ad 240 _ _ _ at G;refine G.mono ?_;rintro e w' ⟨rfl,d,m,I,J,H,rfl⟩;have r:d.size=l.length:=by rw [J.1,p]
  obtain⟨h1,h2⟩:=Un C a d r m I;refine⟨rfl,d.toList.map Fin.val,?_,?_,kF.1 h1,h2⟩
  ·have h3:=J.2.2;rw [Ui d _ r,Ui _ _ p] at h3;have u:=h3.map Fin.val;simpa [Ss] using u
  ·intro i j hi hj D;rw [As,Array.length_toList] at hi hj;have u:=H i j (Ak _) D (by omega);rw [Xa,getElem!_pos d j hj,getElem!_pos d i hi] at u;have N:=of_decide_eq_false u;have q:∀(k:Nat) (hk:k<d.size) hk',l.getD ((d.toList.map Fin.val)[k]'hk') []=l[d[k]]:=by
    intro k hk hk';rw [List.getElem_map,Be];simp
   rw [q i hi,q j hj];exact N
theorem N8(w:World):∀q,Below w.heap.size w (w.drewN q)
 |0=>Af _ _
 |q+1=>(N8 w q).drew
theorem Ac7:(Ad.info? 3).map (fun i=>(i.zero,i.size,i.bytes))=some (some (Aa Ab 0),1,8):=by kernel_rfl
theorem wW(n:Nat):(madeCells #[Aa Ab 0] n).toList=(Al n 0).flatMap K4:=by
 apply List.ext_getElem?;intro j;by_cases a:j<n
 ·have h1:=Ip Gs (Al n 0) j 0 (by simpa using a) (by omega);rw [Nat.mul_one,Nat.add_zero,List.getElem_replicate] at h1;rw [h1];simp [madeCells,a,K4,Nat.mod_one]
 ·rw [Bg (by simp [madeCells];omega),Bg (by rw [Cm Gs];simp;omega)]
theorem Adf(n:Nat)(hn:n≤1099511627776):∃Z:Array Value,Z.toList=(Al n 0).flatMap K4∧∀W:World,(Instr.makeSlice 118 (Aa Ab (n:Int)) (Aa Ab (n:Int))).run Ad W= .ok (.slice (some ⟨W.heap.size,0,none⟩) n n) (W.alloc (.cells Z 3)):=by
 obtain⟨i,c,e,d,b⟩:=info_parts Ac7;refine⟨_,wW n,fun W=>?_⟩;have a:=run_make (P:=Ad) W 118 3 i _ underlying118 c e .i64 .i64 n n (by omega) (Int.le_refl _) (by rw [b];omega) (by omega);simp only [Int.toNat_natCast,d,Nat.mul_one] at a;exact a
theorem Abe{f:α→List Value}(hf:∀x,(f x).length=1)(W:World)(Z:Array Value)(n B:Nat)(l:List α)(hB:B≤W.heap.size)(hn:l.length=n)(hm:n≤1099511627776)(hZ:Z.toList=l.flatMap f):Go.Acc.Own f 1 e (W.alloc (.cells Z e)) B (some ⟨W.heap.size,0,none⟩) n n l:=by
 refine⟨hn,?_⟩;have a:Z.size=n*1:=by rw [←Array.length_toList,hZ,Cm hf,hn]
 have:=World.ownsRow_lit (base:=B) (e:=e) (size:=1) W Z n hB (by simp only [maxLen];omega) a;rw [hZ] at this;exact this
theorem rA(k n:Nat)(hk:k<n):(List.range k++Al (n-k) 0).take k++ [k]++(List.range k++Al (n-k) 0).drop (k+1)=List.range (k+1)++Al (n-(k+1)) 0:=by
 have a:(List.range k).length=k:=List.length_range;rw [List.take_append_of_le_length (by omega),Bb (by omega),List.drop_append,List.drop_of_length_le (by omega),a,List.range_succ,List.drop_replicate,List.nil_append]
 congr 2
 omega
def Aew(w:World)(l:List (List UInt8))(e:Ending)(w':World):Prop:=
 ∃A c ps,e= .returned (.tuple #[.slice A l.length c,Aa Ab 0])∧R8 w' w.heap.size A l.length c ps∧ps.Perm (List.range l.length)∧(∀(i j:Nat) (hi:i<ps.length) (hj:j<ps.length),i<j→l.getD ps[i] []<l.getD ps[j] [])∧Below w.heap.size w w'
theorem Xg(A:Option Addr)(n c:Nat)(l:List (List UInt8))(w:World)(hI:Fs w A n l)(ho:∀ad,A=some ad→ad.block<w.heap.size)(hn:n≤1000000)(hd:l.Nodup):
  Calls Ad 145 #[.slice A n c] w (Aew w l):=by
 have z:l.length=n:=by have:=hI.1;simpa using this
 obtain⟨Z,hZ,au⟩:=Adf n (by omega);have HI:=Hd hI;have ak:=Hd ho;have ai:=Hd hd;have a5:=Hd z;have H:=(Af w.heap.size w).alloc (Ae _) (.cells #[.slice A n c] 31);have T:=H.alloc H.size (.cells Z 3);have ao:=Hd (Bk.new w 31 #[.slice A n c]);have F:=Hd ((Bk.new w 31 #[.slice A n c]).alloc (.cells Z 3));have v:=Hd (Abe (e:=3) Gs (w.alloc (.cells #[.slice A n c] 31)) Z n 0 (Al n 0) (Ak _) (by simp) (by omega) hZ);have N:=Hd T;have x0:(w.alloc (.cells #[.slice A n c] 31)).cell? ⟨w.heap.size,0,none⟩=some (.slice A n c):=(Bk.new w 31 #[.slice A n c]).cell 0;clear hI ho hd H T hZ;go_enter func145,ntmps145;go_upto_region 2 with fail
 rw [Ku] at v;generalize (w.alloc (.cells #[.slice A n c] 31)).alloc (.cells Z 3)=w2 at F v N⊢;generalize f:w.heap.size+1=g at v⊢;generalize aq:w.heap.size=bl at F⊢;have C:=Hd (show w.heap.size≤g∧w.heap.size=bl∧bl≠g by omega);clear f aq x0 au ao;go_wp2_with fail;go_loopw [12] (fun u wr=>∃k:Nat,k≤n∧u= Aa Ab k∧R8 wr 0 (some ⟨g,0,none⟩) n n (List.range k++Al (n-k) 0)∧Below w.heap.size w wr∧Bk wr bl 31 #[.slice A n c]) (fun u _=>n-(intOf u).toNat)
 case atStart=>exact⟨0,Ak _,rfl,v.o,N.o,F.o⟩
 case round=>
  obtain⟨k,hk,rfl,b,U,ae⟩:=hrel;have E:=Hd b;have r:=Hd U;have y:=Hd ae;clear b U ae;by_cases aa:k<n
  ·obtain⟨⟨u,hu⟩,hf,d⟩:=Ig Gs E.o aa k (Aa Ab (k:Int)) rfl;rw [rA k n aa] at d;have O:=Hd d;have m:=Hd (Cq r.o (Fr.setCell (S:=fun j=>j=g) (Fr.refl _ wr) (p:=⟨g,k,none⟩) (fun _=>rfl) (Aa Ab (k:Int))) (by rintro j rfl;exact C.o.1));have G:=Hd (y.o.far (p:=⟨g,k,none⟩) C.o.2.2 (Aa Ab (k:Int)));have be:(0:Int)≤(k:Int):=by omega
   have bf:(k:Int)<(n:Int):=by omega
   clear d;go_wp2_with fail;go_roundw
   case rel=>exact⟨k+1,by omega,by go_num,O.o,m.o,G.o⟩
   case measure=>simp [intOf];omega
  ·obtain rfl:k=n:=by omega
   have b:=E.o;rw [Nat.sub_self,List.replicate_zero,List.append_nil] at b;have P:=Hd (xE b C.o.1);clear b E;go_wp2_with fail;go_at_call 240;refine(tU w.heap.size g k k bl A c l _ (y.o.cell 0) (HI.o.pure r.o) (by omega) P.o C.o.2.2 (fun ad e=>by have h1:=ak.o ad e;have h2:=C.o.1;omega)).mono ?_;rintro e w3 ⟨rfl,ps,B,hr,ab,I⟩;have al:=Hd B;have an:=Hd hr;have aj:=Hd ab;have m:=Hd (Cq r.o I (by rintro j rfl;exact C.o.1));have G:=Hd (y.o.fr I C.o.2.2);have ah:=Hd (HI.o.pure m.o);have a6:=Hd (show ps.length=k by have:=B.length_eq;simpa using this);have x:=Hd (show ∀p∈ps,p<k from fun p h=>List.mem_range.1 (B.mem_iff.1 h));have am:=Hd (show ps.Nodup from B.nodup_iff.2 List.nodup_range);clear B hr ab I r y P HI;have M:=Hd (show ∀(i j:Nat) (hi:i<ps.length) (hj:j<ps.length),i<j→l.getD ps[i] []<l.getD ps[j] [] by
    intro i j hi hj ar;have h1:=an.o i j hi hj ar;have J:=x.o ps[i] (List.getElem_mem _);have K:=x.o ps[j] (List.getElem_mem _);have f:∀p (h:p<l.length),l.getD p []=l[p]:=fun p h=>by rw [Be,Ag];rfl
    rw [f _ (by rw [z];exact J),f _ (by rw [z];exact K)];rw [f _ (by rw [z];exact K),f _ (by rw [z];exact J)] at h1;rcases mP (l[ps[i]]'(by rw [z];exact J)) (l[ps[j]]'(by rw [z];exact K)) with⟨h2,_⟩|⟨h2,_⟩|⟨h2,_⟩
    ·exact h2
    ·have h3:=(List.getElem_inj ai.o).1 h2;have h4:=(List.getElem_inj am.o).1 h3;omega
    ·exact absurd h2 h1)
   go_wp2_with fail;go_loopw [6] (fun u wr=>∃j:Nat,(j+1≤k∨j=0)∧u= Aa Ab ((j+1:Nat):Int)∧R8 wr w.heap.size (some ⟨g,0,none⟩) k k ps∧Below w.heap.size w wr∧Bk wr bl 31 #[.slice A k c]∧Fs wr A k l) (fun u _=>k+1-(intOf u).toNat)
   case atStart=>exact⟨0,.inr rfl,rfl,aj.o,m.o,G.o,ah.o⟩
   case round=>
    obtain⟨j,hj,rfl,ho,hb,hx,hi⟩:=hrel;have HO:=Hd ho;have HB:=Hd hb;have HX:=Hd hx;have D:=Hd hi;have x0:wr.cell? ⟨bl,0,none⟩=some (.slice A k c):=hx.cell 0;clear ho hb hx hi;by_cases a0:j+1<k
    ·obtain⟨b1,o1,Q,V,y0⟩:=S1 HO.o.is (show j<k by omega);obtain⟨b2,o2,R,W,y1⟩:=S1 HO.o.is (show j+1<k by omega);injection Q with Q
     injection Q with Q e3
     injection R with R
     injection R with R e4
     subst Q e3 R e4;have a:=M.o j (j+1) V W (by omega);have B:=x.o ps[j] (List.getElem_mem _);have hq:=x.o ps[j+1] (List.getElem_mem _);generalize ps[j]=p at y0 a B;generalize ps[j+1]=q at y1 a hq;obtain⟨b3,o3,e5,X,z0⟩:=G4 D.o B;obtain⟨b4,o4,L,Y,z1⟩:=G4 D.o hq;have f:∀p (h:p<l.length),l.getD p []=l[p]:=fun p h=>by rw [Be,Ag];rfl
     rw [f _ X,f _ Y] at a;generalize l[p]=s at z0 a;generalize l[q]=t at z1 a;have a7:=Hd e5;rw [e5] at L x0;injection L with L
     injection L with L e7
     subst L e7;rw [Av] at y0 y1;have bg:(s==t)=false:=beq_eq_false_iff_ne.mpr (fun e=>by rw [e] at a;exact List.lt_irrefl _ a);have a9:(0:Int)≤(j:Int):=by omega
     have ba:(j:Int)+1<(k:Int):=by omega
     have bb:(j:Int)<(k:Int):=by omega
     have bh:(0:Int)≤(p:Int):=by omega
     have bi:(p:Int)<(k:Int):=by omega
     have bj:(0:Int)≤(q:Int):=by omega
     have bk:(q:Int)<(k:Int):=by omega
     clear f a e5 V W X Y;go_wp2_with fail;go_quiet (fail);go_wp2_with fail;go_roundw
     case rel=>exact⟨j+1,.inl (by omega),by go_num,HO.o.pure (N8 _ _),Bi HB.o (N8 _ _),HX.o.pure (N8 _ _),D.o.pure (N8 _ _)⟩
     case measure=>simp [intOf];omega
    ·have bd:¬((j:Int)+1<(k:Int)):=by omega
     go_wp2_with fail;go_ret2;subst z;exact⟨_,_,ps,rfl,HO.o,al.o,M.o,HB.o⟩
end
end Go.Proofs.YtejpbijeifjdeaaGreat
