/- Parts of the proof. -/
import Derived.Test.YtejpbijeifjdeaaGreatQf23
import Derived.Deep.DeepCutAuto
set_option maxHeartbeats 2000000
set_option maxRecDepth 100000
open Go.Value renaming int→Aa
open Go.IntKind renaming i64→Ab
open Nat renaming le_refl→Ae
open Go.RowKit.Below renaming refl→Af
open List renaming length_append→Ah,append_assoc→Am,length_map→As,length_cons→Au,nil_append→A6,getElem?_append_left→Bh
open Int renaming toNat_natCast→Ay
open Go.Instr renaming mapUpdate→Ba
open Go.Proofs.Tryz
open Go.Proofs.Tryz renaming prog→Ad
namespace Go.Proofs.YtejpbijeifjdeaaGreat
variable {l L:List UInt8}{p q t:Int}{w w':World}{u B b k j n s T:Nat}{g:Option Nat}{cs:Array Value}{tags:Bool}{vs:List Bv}{v:Bv}
section
open Go.RowKit Go.Acc
theorem Xq{v:Int}(h:Ch l p q t v=0):0≤Cg l p q t v∧Cg l p q t v≤l.length:=by
 have a:Co l.length p q t v=0:=by
  by_cases e:Co l.length p q t v=0
  ·exact e
  ·rw [O2 e] at h;exact absurd h e
 obtain⟨_,h2⟩:=Fg.1 a;obtain⟨h1,_⟩:=Fg.1 a;have h2:=Eh.1 h2;have h1:=Du.1 h1;have c:=Cr.1 h1.2.1;unfold Ch at h;rw [if_pos a] at h;unfold Cg;have b:Ch l p q t v=0:=by unfold Ch;rw [if_pos a];exact h
 rw [if_pos b];split at h
 ·cases h
 ·split at h
  ·cases h
  ·omega
def O9(t:Int):Bool:=(kP t).isSome
theorem rP(h:Bq t=true):O9 t=true:=by
 have:=Ic (Ls h);revert h;refine Lc (p:=fun t=>Bq t=true→O9 t=true) ?_ this;decide
def D8(l:List UInt8)(p q t v:Int):Int:=
 if Co l.length p q t v≠0 then Co l.length p q t v
 else if O9 t=false then 60
 else if Bq t=true then 0
 else if Ch l p q t v≠0 then Ch l p q t v
 else if Cg l p q t v % v≠0 then 212
 else if H8 l.length (Cg l p q t v) v=false then 211 else 0
def Gu(l:List UInt8)(p q t v:Int):Int:=if D8 l p q t v=0 then(if Bq t=true then p else Cg l p q t v) else 0
def G7(l:List UInt8)(p q t v:Int):Int:=if D8 l p q t v=0 then(if Bq t=true then q else v) else 0
def aV(w:World)(l:List UInt8)(p q t v:Int)(e:Ending)(w':World):Prop:=
 e= .returned (.tuple #[Aa Ab (Gu l p q t v),Aa Ab (G7 l p q t v),Aa Ab (D8 l p q t v)])∧Below w.heap.size w w'
theorem P9{v er:Int}(h:D8 l p q t v=er)(hne:er≠0)(hb:Below w.heap.size w w'):aV w l p q t v (.returned (.tuple #[Aa Ab 0,Aa Ab 0,Aa Ab er])) w':=by
 unfold aV Gu G7;rw [h,if_neg hne,if_neg hne];exact⟨rfl,hb⟩
theorem fF{v a x:Int}(h:D8 l p q t v=0)(ha:(if Bq t=true then p else Cg l p q t v)=a)(hx:(if Bq t=true then q else v)=x)(hb:Below w.heap.size w w'):aV w l p q t v (.returned (.tuple #[Aa Ab a,Aa Ab x,Aa Ab 0])) w':=by
 unfold aV Gu G7;rw [h,if_pos rfl,if_pos rfl,ha,hx];exact⟨rfl,hb⟩
theorem Td(l:List UInt8)(p q t v:Int):(Co l.length p q t v≠0∧D8 l p q t v=Co l.length p q t v)∨(Co l.length p q t v=0∧
  ((O9 t=false∧D8 l p q t v=60)∨(O9 t=true∧Bq t=true∧D8 l p q t v=0)∨(O9 t=true∧Bq t=false∧
   ((Ch l p q t v≠0∧D8 l p q t v=Ch l p q t v)∨(Ch l p q t v=0∧Cg l p q t v % v≠0∧D8 l p q t v=212)∨(Ch l p q t v=0∧Cg l p q t v % v=0∧H8 l.length (Cg l p q t v) v=false∧D8 l p q t v=211)∨
    (Ch l p q t v=0∧Cg l p q t v % v=0∧H8 l.length (Cg l p q t v) v=true∧D8 l p q t v=0))))):=by
 unfold D8;by_cases h1:Co l.length p q t v=0
 ·refine .inr ⟨h1,?_⟩;rw [if_neg (by simpa using h1)];cases h2:O9 t with
  |false=>exact .inl ⟨rfl,if_pos rfl⟩
  |true=>
   rw [if_neg (by decide)];cases h3:Bq t with
   |true=>exact .inr (.inl ⟨rfl,rfl,if_pos rfl⟩)
   |false=>
    refine .inr (.inr ⟨rfl,rfl,?_⟩);rw [if_neg (by decide)];by_cases a:Ch l p q t v=0
    ·rw [if_neg (by simpa using a)];by_cases b:Cg l p q t v % v=0
     ·rw [if_neg (by simpa using b)];cases h6:H8 l.length (Cg l p q t v) v with
      |false=>exact .inr (.inr (.inl ⟨a,b,rfl,if_pos rfl⟩))
      |true=>exact .inr (.inr (.inr ⟨a,b,rfl,if_neg (by decide)⟩))
     ·rw [if_pos b];exact .inr (.inl ⟨a,b,rfl⟩)
    ·rw [if_pos a];exact .inl ⟨a,rfl⟩
 ·rw [if_pos h1];exact .inl ⟨h1,rfl⟩
theorem wD{r:Option (Nat×Value)}(h:r.map (·.2)=kP t):r.isSome=O9 t:=by
 unfold O9;rw [←h];cases r <;>rfl
theorem Acb:∀W:World,(zeroValue 274).run Ad W= .ok .nilFunc W:=by
 intro W
 kernel_rfl
theorem Abk(t:Int)(W:World)(g:Nat)(hb:W.heap[g]?=some (.map fM 6)):
  (∀b,(Instr.lookup 276 (.map (some g)) (Aa Ab t) b).run Ad W= .ok (if b then .tuple #[(kP t).getD .nilFunc,.bool (O9 t)] else(kP t).getD .nilFunc) W):=by
 intro b;obtain⟨r,h1,h2⟩:=Abj t;rw [Oy underlying276 underlying3 .nilFunc Acb W fM 6 g t b r hb h1,h2,wD h2]
theorem iZ(A:Option Addr)(n c:Nat)(p q t v:Int)(l:List UInt8)(w:World)(h:Cv w A n l)(hc:n≤c)(hn:n≤9223372036854775807):
  Calls Ad 151 #[.slice A n c,.agg (Afg p q t v)] w (aV w l p q t v):=by
 have K:=h.1;subst K;have r:=Hd (h.alloc (.cells (Afg p q t v) 70));have f:=Hd ((Af w.heap.size w).alloc (Ae _) (.cells (Afg p q t v) 70));have i:=Hd (Bk.new w 70 (Afg p q t v));have j:=Td l p q t v;clear h;go_enter func151,ntmps151;go_wp2_with fail;go_at_call 148;refine(Ot A _ c p q t v _ hn).mono ?_;obtain ⟨x,y,m,z⟩:=i.o.c4;rintro e S ⟨rfl,b⟩;clear x y m z;replace f:=Hd (Bi f.o b);replace i:=Hd (i.o.pure b);replace r:=Hd (r.o.pure b);clear b;obtain ⟨x,y,m,z⟩:=i.o.c4;rcases j with⟨D,d⟩|⟨D,j⟩
 ·have k:=Hd d;have P:(Co l.length p q t v != 0)=true:=by simpa using D
  have Q:=Hd D;clear d D;go_wp2;go_ret3;exact P9 k.o Q.o f.o
 ·obtain⟨M,O⟩:=Fg.1 D;have O:=Eh.1 O;have M:=Du.1 M;have Z:=Cr.1 M.2.2;rw [D];obtain⟨V,rfl⟩:∃V:Nat,v=V:=⟨v.toNat,by omega⟩;have W:1≤V:=by omega
  have X:V≤8:=by omega
  have Y:(V==0)=false:=beq_eq_false_iff_ne.mpr (by omega);clear M O Z;have B:=Hd j;have Q:=Hd D;clear j D;go_wp2_with fail;go_upto_region 4 with fail
  go_cut [8,9] (fun u8 u9 wx=>u9= .bool (O9 t)∧Below S.heap.size S wx)
  case first=>
   go_region_held3 (fun w'=>w'.cell? ⟨w.heap.size,2,none⟩=some (Aa Ab t)) (first|assumption|exact m|exact Bl H.o m)
    (first|(go_at_call 250;refine(fN _).mono ?_;rintro e w5 ⟨g,rfl,R,J⟩;have H:=Hd J;have U:=Abk t w5 g R;clear J R))
   go_wp2_with fail;go_meet;exact⟨rfl,Bi (Af _ _).drew H.o⟩
  case rest=>
   obtain⟨rfl,b⟩:=hcut;clear x y m z;replace f:=Hd (Bi f.o b);replace i:=Hd (i.o.pure b);replace r:=Hd (r.o.pure b);clear b;obtain ⟨x,y,m,z⟩:=i.o.c4;rcases B.o with⟨h1,d⟩|⟨h1,h2,d⟩|⟨h1,h2,j⟩
   ·have k:=Hd d;rw [h1];clear d h1 B;go_wp2;go_ret3;exact P9 k.o (by decide) f.o
   ·have k:=Hd d;have E:=Hd h2;rw [h1];clear d h1 B h2;go_wp2_with fail;go_at_call 78;refine(Cz t _).mono ?_;rw [E.o];rintro e w2 ⟨rfl,b⟩;clear x y m z;replace f:=Hd (Bi f.o b);replace i:=Hd (i.o.pure b);replace r:=Hd (r.o.pure b);clear b;obtain ⟨x,y,m,z⟩:=i.o.c4;go_wp2_with fail;go_quiet (fail);go_wp2;go_ret3;exact fF k.o (if_pos E.o) (if_pos E.o) (below_drewN f.o _)
   ·have E:=Hd h2;have I:=Hd j;rw [h1];clear h1 B h2 j;go_wp2_with fail;go_at_call 78;refine(Cz t _).mono ?_;rw [E.o];rintro e w2 ⟨rfl,b⟩;clear x y m z;replace f:=Hd (Bi f.o b);replace i:=Hd (i.o.pure b);replace r:=Hd (r.o.pure b);clear b;obtain ⟨x,y,m,z⟩:=i.o.c4;go_wp2_with fail;go_at_call 79;refine(Im A _ c p q t V l _ r.o hc hn).mono ?_;rintro e w3 ⟨rfl,b⟩;clear x y m z;replace f:=Hd (Bi f.o b);replace i:=Hd (i.o.pure b);replace r:=Hd (r.o.pure b);clear b;obtain ⟨x,y,m,z⟩:=i.o.c4;rcases I.o with⟨h1,d⟩|⟨h0,s,d⟩|⟨h0,s,G,d⟩|⟨h0,s,G,d⟩
    ·have P:(Ch l p q t V != 0)=true:=by simpa using h1
     have k:=Hd d;have T:=Hd h1;clear h1 d I;go_wp2;go_ret3;exact P9 k.o T.o f.o
    ·have k:=Hd d;have u:=Xq h0;rw [h0];obtain⟨a,C⟩:∃a:Nat,Cg l p q t V=a:=⟨(Cg l p q t V).toNat,by omega⟩;rw [C] at s⊢;have L:((a:Int) % (V:Int) != 0)=true:=by simpa using s
     clear h0 s d I C u;go_wp2;go_ret3;exact P9 k.o (by decide) f.o
    ·have k:=Hd d;have u:=Xq h0;rw [h0];obtain⟨a,C⟩:∃a:Nat,Cg l p q t V=a:=⟨(Cg l p q t V).toNat,by omega⟩;rw [C] at s G⊢;have L:((a:Int) % (V:Int) != 0)=false:=by simpa using s
     have F:=Hd G;clear h0 s G d I C u;go_wp2_with fail;go_at_call 246;refine(D5 A _ c a V _ hn).mono ?_;rw [F.o];rintro e w4 ⟨rfl,rfl⟩;go_wp2;go_ret3;exact P9 k.o (by decide) f.o
    ·have k:=Hd d;have u:=Xq h0;rw [h0];obtain⟨a,C⟩:∃a:Nat,Cg l p q t V=a:=⟨(Cg l p q t V).toNat,by omega⟩;have N:=Hd C;rw [C] at s G⊢;have L:((a:Int) % (V:Int) != 0)=false:=by simpa using s
     have F:=Hd G;clear h0 s G d I C u;go_wp2_with fail;go_at_call 246;refine(D5 A _ c a V _ hn).mono ?_;rw [F.o];rintro e w4 ⟨rfl,rfl⟩;go_wp2_with fail;go_quiet (fail);go_wp2;go_ret3;exact fF k.o (by rw [if_neg (by rw [E.o];decide)];exact N.o) (if_neg (by rw [E.o];decide)) (below_drewN f.o _)
def zM(l:List UInt8)(t a x:Int):Bool:=decide ((t=1∨t=6)∧I9 l a x<0)
def Up(l:List UInt8)(t a x:Int):Nat:=if t=0 then 0 else if t=26 then min (loadU l a x) 1 else if t=1∨t=6 then(I9 l a x).natAbs else loadU l a x
def Z4(l:List UInt8)(p q t v:Int):Bool:=decide (D8 l p q t v=0)&&zM l t (Gu l p q t v) (G7 l p q t v)
def scU(l:List UInt8)(p q t v:Int):Nat:=if D8 l p q t v=0 then Up l t (Gu l p q t v) (G7 l p q t v) else 0
def aP(u:Nat):Bool:=decide (9223372036854775808≤u)
def wN(l:List UInt8)(p q t v:Int):Int:=if Z4 l p q t v=true then -(scU l p q t v:Int) else if aP (scU l p q t v)=true then 0 else scU l p q t v
def wM(l:List UInt8)(p q t v:Int):Int:=if D8 l p q t v≠0 then D8 l p q t v else if Z4 l p q t v=true then 0 else if aP (scU l p q t v)=true then 10 else 0
def oW(l:List UInt8)(p q t v:Int):Nat:=if Z4 l p q t v=true then 0 else scU l p q t v
def oV(l:List UInt8)(p q t v:Int):Int:=if D8 l p q t v≠0 then D8 l p q t v else if Z4 l p q t v=true then 10 else 0
def tN(l:List UInt8)(p q t v:Int):Bool:=(scU l p q t v:Int) != 0
theorem Adl(A:Option Addr)(n c:Nat)(p q t v:Int)(l:List UInt8)(a x er:Int)(w:World)(h:Cv w A n l)(hc:n≤c)(hn:n≤9223372036854775807)(h0:Gu l p q t v=a)(h1:G7 l p q t v=x)(h2:D8 l p q t v=er):
  Calls Ad 151 #[.slice A n c,.agg (Afg p q t v)] w (Afc (.tuple #[Aa Ab a,Aa Ab x,Aa Ab er]) w):=by
 subst h0 h1 h2;exact iZ A n c p q t v l w h hc hn
structure Rq where
 p:Int
 q:Int
 t:Int
 v:Int
abbrev P3:=Int×Int×Int
structure Bw where
 left:Int
 had:List P3
 o:List P3
def Er(t:Int):Int:=if t=0 then 1 else if t=1 then 2 else if t=2 then 3 else if t=26 then 4 else 5
def Bw.tell(s:Bw)(a b c:Int):Bw:=if a<b then { s with o:=s.o++ [(a,b,c)]} else s
def Bw.burn(s:Bw):Bw:={ s with left:=s.left-1}
def Bw.see(s:Bw)(x:P3):Bw:={ s with had:=s.had++ [x]}
section
variable (l:List UInt8) (go:Rq→Bw→Bw×Int) (r:Rq)
def Ey(s:Bw):Bw×Int:=
 if D7 l r.p r.q r.t r.v [4,5,25]≠0 then(s,D7 l r.p r.q r.t r.v [4,5,25])
 else if r.t=4 then(s.tell (Dj l r.p r.q r.t r.v [4,5,25]) (Dj l r.p r.q r.t r.v [4,5,25]+(Fc l r.p r.q r.t r.v [4,5,25]).length+1) 9,0)
 else if r.t=5 then((s.tell (Dj l r.p r.q r.t r.v [4,5,25]-r.v) (Dj l r.p r.q r.t r.v [4,5,25]) 6).tell (Dj l r.p r.q r.t r.v [4,5,25]) (Dj l r.p r.q r.t r.v [4,5,25]+(Fc l r.p r.q r.t r.v [4,5,25]).length+1) 10,0)
 else((s.tell (Dj l r.p r.q r.t r.v [4,5,25]-r.v) (Dj l r.p r.q r.t r.v [4,5,25]) 6).tell (Dj l r.p r.q r.t r.v [4,5,25]) (Dj l r.p r.q r.t r.v [4,5,25]+(Fc l r.p r.q r.t r.v [4,5,25]).length) 11,0)
def E7(s:Bw):Bw×Int:=
 if D8 l r.p r.q r.t r.v=0 then(s.tell (Gu l r.p r.q r.t r.v) (Gu l r.p r.q r.t r.v+G7 l r.p r.q r.t r.v) (if r.t=6 then 12 else 13),0)
 else(s,D8 l r.p r.q r.t r.v)
def En:Rq:=⟨Gm l r.p r.q r.t r.v,Gn l r.p r.q r.t r.v,Nq l r.p r.q r.t r.v,Gw l r.p r.q r.t r.v⟩
def Ga(i:Nat):Rq:=⟨Ka l r.p r.q r.t r.v i,Kb l r.p r.q r.t r.v i,Kv l r.p r.q r.t r.v i,Kw l r.p r.q r.t r.v i⟩
def Hz(s:Bw):Bw×Int:=
 if Ib l r.p r.q r.t r.v≠0 then(s,Ib l r.p r.q r.t r.v)
 else if(go (En l r) s).2≠0 then go (En l r) s
 else((go (En l r) s).1.tell (lsFrom l r.p r.q r.t r.v+r.v) (lsFrom l r.p r.q r.t r.v+2*r.v) 7,0)
def F8(i:Nat)(s:Bw):Bw:=
 if Cj r.t=true then s.tell ((lsAt l r.p r.q r.t r.v:Int)+lsLen l r.p r.q r.t r.v*r.v+i) ((lsAt l r.p r.q r.t r.v:Int)+lsLen l r.p r.q r.t r.v*r.v+i+1) 8 else s
def D0:Nat→Nat→Bw→Bw×Int
 |0,_,s=>(s,0)
 |k+1,i,s=>
  if F5 l r.p r.q r.t r.v i≠0 then(F8 l r i s,F5 l r.p r.q r.t r.v i)
  else if(go (Ga l r i) (F8 l r i s)).2≠0 then go (Ga l r i) (F8 l r i s)
  else D0 k (i+1) (go (Ga l r i) (F8 l r i s)).1
def Jk(s:Bw):Bw:=if lsFrom l r.p r.q r.t r.v<lsAt l r.p r.q r.t r.v then s.tell ((lsAt l r.p r.q r.t r.v:Int)-r.v) (lsAt l r.p r.q r.t r.v) 6 else s
def Em(s:Bw):Bw×Int:=if r.t=9 then Hz l go r s else(s,0)
def Gl(s:Bw):Bw×Int:=
 if C2 l r.p r.q r.t r.v≠0 then(s,C2 l r.p r.q r.t r.v)
 else if(Em l go r s).2≠0 then Em l go r s
 else D0 l go r (lsLen l r.p r.q r.t r.v) 0 (Jk l r (Em l go r s).1)
def Ee(s:Bw):Bw×Int:=if G3 [4,5,25] r.t=true then Ey l r s else if r.t=6∨r.t=7 then E7 l r s else Gl l go r s
def F7:P3:=(Cg l r.p r.q r.t r.v,r.t,r.v)
end
def C7(r:Rq)(s:Bw):Bw:=s.burn.tell r.p (r.p+r.q) (Er r.t)
def Ct(l:List UInt8):Nat→Rq→Bw→Bw×Int
 |0,_,s=>(s,260)
 |d+1,r,s=>
  if s.left<1 then(s,260)
  else if Bq r.t=true then(C7 r s,0)
  else if Ch l r.p r.q r.t r.v≠0∨F7 l r∈s.had then(C7 r s,Ch l r.p r.q r.t r.v)
  else Ee l (Ct l d) r ((C7 r s).see (F7 l r))
end
section
open Go.Acc
inductive F9:List UInt8→List P3→Prop
 |nil:F9 [] []
 |pad {l:List UInt8} {log:List P3} (h:F9 l log) (k:Nat):F9 (l++List.replicate k 0) log
 |part {l:List UInt8} {log:List P3} (h:F9 l log) (m:List UInt8) (hm:m≠ []) (c:Int):F9 (l++m) (log++ [((l.length:Int),((l.length+m.length:Nat):Int),c)])
structure Tu(l:List UInt8)(log:List P3):Prop where
 rg:∀x∈log,0≤x.1∧x.1<x.2.1∧x.2.1≤l.length
 asc:log.Pairwise fun a b=>a.2.1≤b.1
 o:∀(i:Nat) c,l[i]?=some c→c≠0→∃x∈log,x.1≤(i:Int)∧(i:Int)<x.2.1
theorem F9.facts{log:List P3}(h:F9 l log):Tu l log:=by
 induction h with
 |nil=>exact⟨by simp,List.Pairwise.nil,by simp⟩
 | @pad l log h k ih=>
  refine⟨fun x hx=>?_,ih.asc,fun i c hi hc=>?_⟩
  ·have:=ih.rg x hx;rw [Ah];omega
  ·by_cases e:i<l.length
   ·rw [Bh e] at hi;exact ih.o i c hi hc
   ·rw [List.getElem?_append_right (by omega)] at hi;have:=List.eq_of_mem_replicate (List.mem_of_getElem? hi);exact absurd this hc
 | @part l log h m hm k ih=>
  have h0:0<m.length:=List.length_pos_iff.2 hm;refine⟨fun x hx=>?_,List.pairwise_append.2 ⟨ih.asc,List.pairwise_singleton _ _,fun a ha b hb=>?_⟩,fun i c hi hc=>?_⟩
  ·rw [Ah];rcases List.mem_append.1 hx with hx|hx
   ·have:=ih.rg x hx;omega
   ·rw [List.mem_singleton.1 hx];simp only;omega
  ·rw [List.mem_singleton.1 hb];exact(ih.rg a ha).2.2
  ·by_cases e:i<l.length
   ·rw [Bh e] at hi;obtain⟨x,hx,h1⟩:=ih.o i c hi hc;exact⟨x,List.mem_append_left _ hx,h1⟩
   ·have d:=(List.getElem?_eq_some_iff.1 hi).1;rw [Ah] at d;refine⟨_,List.mem_append_right _ (List.mem_singleton.2 rfl),?_,?_⟩ <;>simp only <;>omega
def Iu(w:Nat):Nat→List Bv→List P3
 |_,[]=>[]
 |a,v::r=>((a:Int),((a+w:Nat):Int),Er v.t)::Iu w (a+w) r
def Ih:Nat→Nat→List P3
 |_,0=>[]
 |a,n+1=>((a:Int),((a+1:Nat):Int),8)::Ih (a+1) n
theorem Ny{w:Nat}(hw:0<w):∀(vs:List Bv) {l:List UInt8} {log:List P3},F9 l log→F9 (Cu w l vs) (log++Iu w l.length vs)
 | [],l,log,h=>by rw [Cu,Iu,List.append_nil];exact h
 |v::r,l,log,h=>by
  have a:Bn w (Da w l.length v)≠ []:=by
   intro e;have:=Bo w (Da w l.length v);rw [e] at this;exact absurd this (by simp;omega)
  have h1:=Ny hw r (h.part _ a (Er v.t));rw [Cu,Iu];rw [Ah,Bo,Am] at h1;exact h1
theorem Ph{w:Nat}:∀(vs:List Bv) {l:List UInt8} {log:List P3},F9 l log→F9 (l++vs.map (Dl w)) (log++Ih l.length vs.length)
 | [],l,log,h=>by
  rw [List.map_nil,List.append_nil,List.length_nil,Ih,List.append_nil];exact h
 |v::r,l,log,h=>by
  have h1:=Ph (w:=w) r (h.part [Dl w v] (by simp) 8);rw [Ah,Am,Am] at h1;rw [List.map_cons,Au,Ih];exact h1
def Gh(len tags:Bool)(vs:List Bv)(v:Bv):List P3:=
 (if len=true then [(((v.n-v.w:Nat):Int),(v.n:Int),(6:Int))] else [])++Iu v.w v.n vs++(if tags=true then Ih (v.n+vs.length*v.w) vs.length else [])
def Nn(vs:List Bv)(v:Bv):List P3:=
 [(((v.n-3*v.w:Nat):Int),((v.n-2*v.w:Nat):Int),(5:Int)),(((v.n-2*v.w:Nat):Int),((v.n-v.w:Nat):Int),(7:Int)),(((v.n-v.w:Nat):Int),(v.n:Int),(6:Int))]++Iu v.w v.n vs++Ih (v.n+vs.length*v.w) vs.length
theorem Oo{w:Nat}(hw:0<w):Bn w u≠ []:=by
 intro e;have:=Bo w u;rw [e] at this;exact absurd this (by simp;omega)
theorem gJ{b:List UInt8}{log:List P3}(h:F9 b log)(t:Nat)(len tags:Bool){l:List Bv}(hf:∀x∈l,Eu b.length x):F9 (Cd t len tags l b).1 (log++Gh len tags l (Cd t len tags l b).2):=by
 obtain⟨w,g⟩:∃w,C3 b.length (if len=true then 1 else 0) none l=w:=⟨_,rfl⟩;have i:Bz (w:Int)=true:=by rw [←g];exact K3 (fun _ e=>by cases e) hf
 have h0:0<w:=by rcases C8.1 i with h|h|h|h <;>omega
 have f:F9 (Bm w b) log:=h.pad _;unfold Gh;simp only [Cd,g];cases len with
 |true=>
  simp only [if_true];have h1:=f.part _ (Oo h0 (u:=l.length)) 6;have h2:=Ny h0 l h1;rw [Ah,Bo] at h2⊢;have e:(Bm w b).length+w-w=(Bm w b).length:=by omega
  rw [e];cases tags with
  |true=>
   simp only [if_true];have h3:=Ph (w:=w) l h2;obtain⟨q,c,d⟩:=Fa w l (Bm w b++Bn w l.length);have a:(Cu w (Bm w b++Bn w l.length) l).length=(Bm w b).length+w+l.length*w:=by
    rw [c,Ah,Ah,Bo,d,Nat.mul_comm]
   rw [a] at h3;simpa only [Am] using h3
  |false=>
   simp only [Bool.false_eq_true,if_false,List.append_nil];simpa only [Am] using h2
 |false=>
  simp only [Bool.false_eq_true,if_false,List.append_nil,A6];have h2:=Ny h0 l f;cases tags with
  |true=>
   simp only [if_true];have h3:=Ph (w:=w) l h2;obtain⟨q,c,d⟩:=Fa w l (Bm w b);have a:(Cu w (Bm w b) l).length=(Bm w b).length+l.length*w:=by
    rw [c,Ah,d,Nat.mul_comm]
   rw [a] at h3;simpa only [Am] using h3
  |false=>
   simp only [Bool.false_eq_true,if_false,List.append_nil];exact h2
theorem gI{b:List UInt8}{log:List P3}(h:F9 b log)(k:Bv){l:List Bv}(hk:Eu b.length k)(hf:∀x∈l,Eu b.length x):F9 (Ef k l b).1 (log++Nn l (Ef k l b).2):=by
 obtain⟨w,a⟩:∃w,C3 b.length 3 (some k) l=w:=⟨_,rfl⟩;have j:Bz (w:Int)=true:=by rw [←a];exact K3 (fun x e=>by injection e with e;exact e▸hk) hf
 have h0:0<w:=by rcases C8.1 j with h|h|h|h <;>omega
 have m:F9 (Bm w b) log:=h.pad _;unfold Nn;simp only [Ef,a];have h1:=((m.part _ (Oo h0 (u:=(Bm w b).length-k.n)) 5).part _ (Oo h0 (u:=k.w)) 7).part _ (Oo h0 (u:=l.length)) 6;have h2:=Ph (w:=w) l (Ny h0 l h1);obtain⟨q,i,o⟩:=Fa w l (Bm w b++Bn w ((Bm w b).length-k.n)++Bn w k.w++Bn w l.length);have c:(Cu w (Bm w b++Bn w ((Bm w b).length-k.n)++Bn w k.w++Bn w l.length) l).length=(Bm w b).length+w+w+w+l.length*w:=by
  rw [i,Ah,o,Nat.mul_comm];simp only [Ah,Bo]
 rw [c] at h2;simp only [Ah,Bo] at h2⊢;have d:(Bm w b).length+w+w+w-3*w=(Bm w b).length:=by omega
 have f:(Bm w b).length+w+w+w-2*w=(Bm w b).length+w:=by omega
 have g:(Bm w b).length+w+w+w-w=(Bm w b).length+w+w:=by omega
 rw [d,f,g];simpa only [Am,List.cons_append,A6] using h2
def nslot(l:List P3):Nat:=l.countP fun x=>decide (x.2.2≤5)
theorem Fp(a b:List P3):nslot (a++b)=nslot a+nslot b:=by unfold nslot;rw [List.countP_append]
theorem cO(t:Int):Er t≤5:=by unfold Er;(repeat' split) <;>omega
theorem Pt(w:Nat):∀(vs:List Bv) (a:Nat),nslot (Iu w a vs)=vs.length
 | [],_=>rfl
 |v::r,a=>by
  have:=Pt w r (a+w);unfold nslot at this⊢;rw [Iu,List.countP_cons_of_pos (by simpa using cO v.t),this,Au]
theorem Rb:∀(n a:Nat),nslot (Ih a n)=0
 |0,_=>rfl
 |n+1,a=>by
  have:=Rb n (a+1);unfold nslot at this⊢;rw [Ih,List.countP_cons_of_neg (by simp),this]
theorem Zt(len tags:Bool)(vs:List Bv)(v:Bv):nslot (Gh len tags vs v)=vs.length:=by
 unfold Gh;rw [Fp,Fp,Pt];have h1:nslot (if len=true then [(((v.n-v.w:Nat):Int),(v.n:Int),(6:Int))] else [])=0:=by
  cases len <;>rfl
 have h2:nslot (if tags=true then Ih (v.n+vs.length*v.w) vs.length else [])=0:=by
  cases tags
  ·rfl
  ·exact Rb _ _
 rw [h1,h2];omega
theorem sV(vs:List Bv)(v:Bv):nslot (Nn vs v)=vs.length+1:=by
 unfold Nn;rw [Fp,Fp,Pt,Rb];simp [nslot,Nat.add_comm]
end
end Go.Proofs.YtejpbijeifjdeaaGreat
namespace Go.Acc
open Go.RowKit
variable {w w':World}{b:Nat}{l:List (Int×Int×Int)}
def Iy(x:Int×Int×Int):Value:= .agg #[Aa Ab x.1,Aa Ab x.2.1,Aa Ab x.2.2]
def Mc(w:World)(b:Nat)(l:List (Int×Int×Int)):Prop:=
 ∃es k,w.heap[b]?=some (.map es k)∧es.toList.map (·.key)=l.map Iy∧∀x∈es.toList,x.val= .bool true
theorem Mc.lt(h:Mc w b l):b<w.heap.size:=by
 obtain⟨es,k,hb,_⟩:=h;exact(Array.getElem?_eq_some_iff.1 hb).1
theorem Mc.fr{S:Nat→Prop}(h:Mc w b l)(hf:Fr S w w')(hs:¬S b):Mc w' b l:=by
 obtain⟨es,k,hb,r⟩:=h;exact⟨es,k,by rw [hf.block b (Array.getElem?_eq_some_iff.1 hb).1 hs];exact hb,r⟩
theorem Mc.pure(h:Mc w b l)(hf:Below w.heap.size w w'):Mc w' b l:=
 h.fr (Fr.of_below hf fun _=>False) (fun h=>h)
section
variable {P:Program} {mt kt et:TypeId} {fs:Array Field}
theorem kU(heq:∀(x y:Int×Int×Int) (W:World),(Op.equal kt (Iy x) (Iy y)).run P W= .ok (decide (x=y)) W)(x:Int×Int×Int)(W:World):
  ∀(l:List (Int×Int×Int)) (es:List MapEntry) (i:Nat),es.map (·.key)=l.map Iy→(∀y∈es,y.val= .bool true)→
   ∃r:Option (Nat×Value),(Instr.findAsking kt (Iy x) es i).run P W= .ok r W∧r.isSome=decide (x∈l)∧∀p,r=some p→p.2= .bool true
 | [],[],i,_,_=>⟨none,by simp [Instr.findAsking],by simp,by simp⟩
 | [],_::_,_,h,_=>by simp at h
 |_::_,[],_,h,_=>by simp at h
 |y::l,e::es,i,h,hv=>by
  simp only [List.map_cons,List.cons.injEq] at h;by_cases a:x=y
  ·refine⟨some (i,e.val),?_,by simp [a],fun p hp=>?_⟩
   ·simp only [Instr.findAsking,Sem.run_bind,h.1,heq,Result.andThen_ok,decide_eq_true a,if_true,Sem.run_pure]
   ·injection hp with hp;subst hp;exact hv e (by simp)
  ·obtain⟨r,h1,h2,h3⟩:=kU heq x W l es (i+1) h.2 (fun z hz=>hv z (by simp [hz]));refine⟨r,?_,?_,h3⟩
   ·simp only [Instr.findAsking,Sem.run_bind,h.1,heq,Result.andThen_ok,decide_eq_false a];rw [if_neg (by decide)];exact h1
   ·rw [h2];simp [a]
theorem Z2(hk:P.underlying kt=some (.struct fs))(heq:∀(x y:Int×Int×Int) (W:World),(Op.equal kt (Iy x) (Iy y)).run P W= .ok (decide (x=y)) W)(x:Int×Int×Int)(W:World)
  (l:List (Int×Int×Int)) (es:List MapEntry) (h:es.map (·.key)=l.map Iy) (hv:∀y∈es,y.val= .bool true):
   ∃r:Option (Nat×Value),(Instr.findKey kt (Iy x) es).run P W= .ok r W∧r.isSome=decide (x∈l)∧∀p,r=some p→p.2= .bool true:=by
 obtain⟨r,h1,h2,h3⟩:=kU heq x W l es 0 h hv;refine⟨r,?_,h2,h3⟩;cases es with
 |nil=>
  simp only [Instr.findAsking,Sem.run_pure] at h1;rw [←h1];simp [Instr.findKey,run_underlying hk,Instr.findNow,Result.andThen]
 |cons e es=>simp [Instr.findKey,run_underlying hk,Instr.findNow,Instr.sameNow,Result.andThen,h1]
theorem Z3(hu:P.underlying mt=some (.map kt et))(hk:P.underlying kt=some (.struct fs))(heq:∀(x y:Int×Int×Int) (W:World),(Op.equal kt (Iy x) (Iy y)).run P W= .ok (decide (x=y)) W)
  (hck:∀(x:Int×Int×Int) (e:Bool) (W:World),(Instr.checkKey e 10000 kt (Iy x)).run P W= .ok () W) (hz:∀W,(zeroValue et).run P W= .ok (.bool false) W)
  (b:Nat) (l:List (Int×Int×Int)) (x:Int×Int×Int) (W:World) (h:Mc W b l):(Instr.lookup mt (.map (some b)) (Iy x) false).run P W= .ok (.bool (decide (x∈l))) W:=by
 obtain⟨c,k,a,h1,h2⟩:=h;obtain⟨r,h3,d,f⟩:=Z2 hk heq x W l c.toList h1 h2;rw [←d];cases r with
 |none=>
  simp only [Instr.lookup,Sem.run_bind,run_underlying hu,Result.andThen_ok,MapKept.run_getObj_map a,hck,h3,hz,Sem.run_pure];rfl
 |some p=>
  obtain⟨i,u⟩:=p;obtain rfl:u= .bool true:=f _ rfl;simp only [Instr.lookup,Sem.run_bind,run_underlying hu,Result.andThen_ok,MapKept.run_getObj_map a,hck,h3,Sem.run_pure];rfl
theorem xX(hu:P.underlying mt=some (.map kt et))(hk:P.underlying kt=some (.struct fs))(heq:∀(x y:Int×Int×Int) (W:World),(Op.equal kt (Iy x) (Iy y)).run P W= .ok (decide (x=y)) W)
  (hck:∀(x:Int×Int×Int) (e:Bool) (W:World),(Instr.checkKey e 10000 kt (Iy x)).run P W= .ok () W)
  (b:Nat) (l:List (Int×Int×Int)) (x:Int×Int×Int) (W:World) (h:Mc W b l) (hx:x∉l):
  ∃W',(Ba mt (.map (some b)) (Iy x) (.bool true)).run P W= .ok () W'∧Mc W' b (l++ [x])∧Fr (fun k=>k=b) W W'∧W'.heap.size=W.heap.size:=by
 obtain⟨c,k,d,h1,h2⟩:=h;obtain⟨r,h3,h4,_⟩:=Z2 hk heq x W l c.toList h1 h2;rw [decide_eq_false hx] at h4;obtain rfl:r=none:=by cases r;rfl;cases h4
 have f:=MapKept.heap_set (w:=W) (o':= .map (c.push { key:=Iy x,val:= .bool true,born:=k}) (k+1)) d;refine⟨{ W with heap:=W.heap.setIfInBounds b (.map (c.push { key:=Iy x,val:= .bool true,born:=k}) (k+1))},?_,⟨_,_,f.1,?_,?_⟩,⟨rfl,rfl,rfl,by simp,fun i hi hne=>f.2 i hne⟩,by simp⟩
 ·simp only [Ba,Sem.run_bind,run_underlying hu,Result.andThen_ok,MapKept.run_getObj_map d,hck,h3,MapKept.run_setObj_map _ d]
 ·simp [h1]
 ·intro y a;simp only [Array.toList_push,List.mem_append,List.mem_singleton] at a;rcases a with a|rfl
  ·exact h2 y a
  ·rfl
end
end Go.Acc
namespace Go.Proofs.YtejpbijeifjdeaaGreat
variable {l L:List UInt8}{p q t:Int}{w w':World}{u B b k j n s T:Nat}{g:Option Nat}{cs:Array Value}{tags:Bool}{vs:List Bv}{v:Bv}
section
open Go.RowKit Go.Acc
theorem Yn:∀(x y:Int×Int×Int) (W:World),(Op.equal 115 (Iy x) (Iy y)).run Ad W= .ok (decide (x=y)) W:=by
 rintro⟨a,b,c⟩ ⟨a',b',c'⟩ W;by_cases h1:a=a' <;>by_cases h2:b=b' <;>by_cases h3:c=c' <;>(simp only [Iy];(change (Op.equalIn 10000 _ _ _).run Ad W=_);go_simp)
theorem Ym:∀(x:Int×Int×Int) (e:Bool) (W:World),(Instr.checkKey e 10000 115 (Iy x)).run Ad W= .ok () W:=by
 rintro⟨a,b,c⟩ e W
 kernel_rfl
theorem Z6:∀W:World,(zeroValue 4).run Ad W= .ok (.bool false) W:=by
 intro W;go_simp
def Vl:Array MapEntry:=#[⟨Aa Ab 0,Aa Ab 1,0⟩,⟨Aa Ab 1,Aa Ab 2,1⟩,⟨Aa Ab 2,Aa Ab 3,2⟩,⟨Aa Ab 26,Aa Ab 4,3⟩]
theorem Abc(t:Int):∃(k:Int) (b:Bool),(if b=true then k else 5)=Er t∧∀(W:World) (g:Nat),W.heap[g]?=some (.map Vl 4)→
  (Instr.lookup 184 (.map (some g)) (Aa Ab t) true).run Ad W= .ok (.tuple #[Aa Ab k,.bool b]) W:=by
 have i:∀W:World,(zeroValue 3).run Ad W= .ok (Aa Ab 0) W:=by intro W;go_simp
 have a:∀(r:Option (Nat×Value)) (W:World) (g:Nat),Instr.findNow (.int .i64) (Aa Ab t) Vl.toList 0=some r→W.heap[g]?=some (.map Vl 4)→(Instr.lookup 184 (.map (some g)) (Aa Ab t) true).run Ad W= .ok (.tuple #[(r.map (·.2)).getD (Aa Ab 0),.bool r.isSome]) W:=by
  intro r W g h hb;exact Oy underlying184 underlying3 (Aa Ab 0) i W Vl 4 g t true r hb h
 by_cases h0:t=0
 ·subst h0;exact⟨1,true,rfl,fun W g hb=>a (some (0,Aa Ab 1)) W g rfl hb⟩
 by_cases h1:t=1
 ·subst h1;exact⟨2,true,rfl,fun W g hb=>a (some (1,Aa Ab 2)) W g rfl hb⟩
 by_cases h2:t=2
 ·subst h2;exact⟨3,true,rfl,fun W g hb=>a (some (2,Aa Ab 3)) W g rfl hb⟩
 by_cases h3:t=26
 ·subst h3;exact⟨4,true,rfl,fun W g hb=>a (some (3,Aa Ab 4)) W g rfl hb⟩
 refine⟨0,false,by simp [Er,h0,h1,h2,h3],fun W g hb=>a none W g ?_ hb⟩;have c:(t==0)=false:=by simpa using h0
 have d:(t==1)=false:=by simpa using h1
 have e:(t==2)=false:=by simpa using h2
 have f:(t==26)=false:=by simpa using h3
 simp only [Vl,Instr.findNow,Instr.sameNow,if_true,c,d,e,f]
theorem xJ(t:Int)(w:World):Calls Ad 77 #[Aa Ab t] w (Afc (Aa Ab (Er t)) w):=by
 have h0:=run_makeMap (P:=Ad) 184;have h1:∀(W:World) (es:Array MapEntry) (c:Nat) (x:Int) (v:Value),Instr.findNow (.int .i64) (.int .i64 x) es.toList 0=some none→(Ba 184 (.map (some W.heap.size)) (.int .i64 x) v).run Ad (W.alloc (.map es c))= .ok () (W.alloc (.map (es.push { key:= .int .i64 x,val:=v,born:=c}) (c+1))):=
  fun W es c x v h=>Qc underlying184 underlying3 W es c _ x v rfl h
 have f:∀W:World,(Ba 184 (.map (some W.heap.size)) (.int .i64 0) (.int .i64 1)).run Ad (W.alloc (.map #[] 0))= .ok () (W.alloc (.map #[⟨.int .i64 0,.int .i64 1,0⟩] 1)):=fun W=>h1 W #[] 0 0 _ rfl
 have g:∀W:World,(Ba 184 (.map (some W.heap.size)) (.int .i64 1) (.int .i64 2)).run Ad (W.alloc (.map #[⟨.int .i64 0,.int .i64 1,0⟩] 1))= .ok () (W.alloc (.map #[⟨.int .i64 0,.int .i64 1,0⟩,⟨.int .i64 1,.int .i64 2,1⟩] 2)):=fun W=>h1 W #[⟨.int .i64 0,.int .i64 1,0⟩] 1 1 _ rfl
 have i:∀W:World,(Ba 184 (.map (some W.heap.size)) (.int .i64 2) (.int .i64 3)).run Ad (W.alloc (.map #[⟨.int .i64 0,.int .i64 1,0⟩,⟨.int .i64 1,.int .i64 2,1⟩] 2))= .ok () (W.alloc (.map #[⟨.int .i64 0,.int .i64 1,0⟩,⟨.int .i64 1,.int .i64 2,1⟩,⟨.int .i64 2,.int .i64 3,2⟩] 3)):=fun W=>h1 W #[⟨.int .i64 0,.int .i64 1,0⟩,⟨.int .i64 1,.int .i64 2,1⟩] 2 2 _ rfl
 have j:∀W:World,(Ba 184 (.map (some W.heap.size)) (.int .i64 26) (.int .i64 4)).run Ad (W.alloc (.map #[⟨.int .i64 0,.int .i64 1,0⟩,⟨.int .i64 1,.int .i64 2,1⟩,⟨.int .i64 2,.int .i64 3,2⟩] 3))= .ok () (W.alloc (.map Vl 4)):=fun W=>h1 W #[⟨.int .i64 0,.int .i64 1,0⟩,⟨.int .i64 1,.int .i64 2,1⟩,⟨.int .i64 2,.int .i64 3,2⟩] 3 26 _ rfl
 clear h1;obtain⟨k,b,a,d⟩:=Abc t;have e:=d (w.alloc (.map Vl 4)) w.heap.size (heap_alloc_new w _);rw [←a];clear d a;cases b with
 |true=>
  go_enter func77,ntmps77;go_wp2;go_ret;exact⟨rfl,(Af _ _).alloc (Ae _) _⟩
 |false=>
  go_enter func77,ntmps77;go_wp2;go_ret;exact⟨rfl,(Af _ _).alloc (Ae _) _⟩
def pc(x:P3):List Value:=[Aa Ab x.1,Aa Ab x.2.1,Aa Ab x.2.2]
theorem Kd(x:P3):(pc x).length=3:=rfl
theorem tB(x:P3):∀u∈pc x,u.oneCell'=true:=by
 intro u hu;simp [pc] at hu;rcases hu with rfl|rfl|rfl <;>rfl
abbrev jG:=Is pc
abbrev Ki:=Go.Acc.Own pc 3 46
theorem Ac9:(Ad.info? 46).map (fun i=>(i.zero,i.size,i.bytes))=some (some (.agg #[Aa Ab 0,Aa Ab 0,Aa Ab 0]),3,24):=by kernel_rfl
def Nj(w:World)(B b:Nat)(g:Option Nat)(l:List P3):Prop:=∃A n c,Bk w b 42 #[.slice A n c]∧Ki w B A n c l∧A.map (·.block)=g
theorem Nj.pure{l:List P3}(h:Nj w B b g l)(hb:Below w.heap.size w w'):Nj w' B b g l:=by
 obtain⟨A,n,c,h1,h2,h3⟩:=h;exact⟨A,n,c,h1.pure hb,h2.pure hb,h3⟩
theorem Nj.fr{l:List P3}{S:Nat→Prop}(h:Nj w B b g l)(hf:Fr S w w')(h1:¬S b)(h2:∀k,g=some k→¬S k):Nj w' B b g l:=by
 obtain⟨A,n,c,b1,b2,b3⟩:=h;exact⟨A,n,c,b1.fr hf h1,b2.fr hf (fun ad had=>h2 _ (by rw [←b3,had];rfl)),b3⟩
theorem Nj.row{l:List P3}(h:Nj w B b g l):∀k,g=some k→B≤k∧k<w.heap.size:=by
 obtain⟨A,n,c,_,h2,rfl⟩:=h;intro k hk;cases A with
 |none=>cases hk
 |some ad=>
  injection hk with hk
  subst hk;exact⟨(h2.addr ad rfl).2.1,(h2.addr ad rfl).2.2⟩
def uT(B b:Nat)(g:Option Nat)(l:List P3)(w w':World):Prop:=∃g',Nj w' B b g' l∧Fr (fun k=>k=b∨some k=g) w w'∧(g'=g∨∃k,g'=some k∧w.heap.size≤k)
theorem Aat(W:World)(x y z:Int):jG (W.alloc (.cells #[Aa Ab x,Aa Ab y,Aa Ab z] 46)) (some ⟨W.heap.size,0,none⟩) 1 [(x,y,z)]:=by
 refine⟨rfl,fun j u hu=>⟨_,_,rfl,?_⟩⟩;rw [Nat.zero_add,(Bk.new W _ _).cell j];simpa [pc] using hu
theorem yM(B b:Nat)(g:Option Nat)(x y z:Int)(l:List P3)(w:World)(h:Nj w B b g l)(hxy:x<y)(hlen:l.length≤1073741824)(hB:B≤w.heap.size)(hbB:b<B):
  Calls Ad 44 #[Aa Ab x,Aa Ab y,Aa Ab z,Afh b] w fun e w'=>e= .returned (.tuple #[])∧uT B b g (l++ [(x,y,z)]) w w':=by
 obtain⟨A,n,c,s,p,rfl⟩:=h;rw [p.1] at hlen;have K:w.cell? ⟨b,0,none⟩=some (.slice A n c):=s.cell 0;have E:=Hd (p.pure ((Af _ _).alloc (Ae _) (.cells #[Aa Ab x,Aa Ab y,Aa Ab z] 46)));have C:=Hd (s.alloc (.cells #[Aa Ab x,Aa Ab y,Aa Ab z] 46));have m:∀ad,A=some ad→ad.block≠b:=fun ad had=>by have:=(p.addr ad had).2.1;omega
 have D:=Hd m;have J:=Hd (p.addr);have I:=s.lt;clear s p m;go_enter func44,ntmps44;go_wp2_with (at_builtin;refine Eb _ rfl (.tmp 10) (.tmp 15) _ rfl 46 _ 3 24 underlying42 Ac9 rfl (by omega) Kd tB _ _ _ _ _ rfl E.o _ _ _ _ rfl (Aat w x y z) (by omega) (by simp;omega) ?_;intro q v w1 d a j;have r:=C.o.fr a (by rintro⟨ad,h,H⟩;exact D.o ad h H.symm);have L:w1.cell? ⟨b,0,none⟩=some (.slice A n c):=r.cell 0;have M:=r.frozen 0;have t:=Hd r;have i:=Hd d;have u:=Hd a;clear r d a);go_end0;have f:Fr (fun k=>k=b) w1 (w1.setCell ⟨b,0,none⟩ (.slice q (n+1) v)):=Fr.setCell (S:=fun k=>k=b) (Fr.refl _ _) (fun _=>rfl) _;refine⟨rfl,q.map (·.block),⟨q,n+1,v,by simpa using t.o.set_ 0 (.slice q (n+1) v),i.o.fr f ?_,rfl⟩,?_,?_⟩
 ·intro ad had e;have:=(i.o.addr ad had).2.1;omega
 ·have F:Fr (fun k=>k=b∨some k=A.map (·.block)) w (w.alloc (.cells #[Aa Ab x,Aa Ab y,Aa Ab z] 46)):=(Fr.refl _ _).alloc _;have G:Fr (fun k=>k=b∨some k=A.map (·.block)) (w.alloc (.cells #[Aa Ab x,Aa Ab y,Aa Ab z] 46)) w1:=u.o.mono (by
   rintro k N ⟨ad,h1,rfl⟩;exact .inr (by rw [h1];rfl))
  exact(F.trans G fun _ _ h=>h).trans f (fun k _ h=> .inl h)
 ·rcases j with h|h
  ·exact .inl h
  ·exact .inr ⟨_,h,by simp⟩
theorem Abx(B b:Nat)(g:Option Nat)(x y z:Int)(l:List P3)(w:World)(h:Nj w B b g l)(hxy:¬x<y):
  Calls Ad 44 #[Aa Ab x,Aa Ab y,Aa Ab z,Afh b] w fun e w'=>e= .returned (.tuple #[])∧uT B b g l w w':=by
 have H:=Hd h;clear h;go_enter func44,ntmps44;go_wp2;go_end0;exact⟨rfl,g,H.o,Fr.refl _ _,.inl rfl⟩
structure Jn where
 B0:Nat
 B2:Nat
 bw:Nat
 bm:Nat
 bl:Nat
 A:Option Addr
 n:Nat
 c:Nat
 l:List UInt8
structure Jn.Ok(E:Jn):Prop where
 hA:∀ad,E.A=some ad→ad.block<E.B0
 l0:E.B0≤E.bl
 l2:E.bl<E.B2
 m0:E.B0≤E.bm
 m2:E.bm<E.B2
 w0:E.B0≤E.bw
 w2:E.bw<E.B2
 lm:E.bl≠E.bm
 lw:E.bl≠E.bw
 mw:E.bm≠E.bw
 hc:E.n≤E.c
 hn:E.n≤4294967296
def Jn.cells(E:Jn)(left:Int):Array Value:=#[.slice E.A E.n E.c,Aa Ab left,.map (some E.bm),.func (.func 44) #[] #[Afh E.bl]]
structure Gb(E:Jn)(g:Option Nat)(s:Bw)(w:World):Prop where
 ok:E.Ok
 b:Cv w E.A E.n E.l
 W:Bk w E.bw 77 (E.cells s.left)
 M:Mc w E.bm s.had
 O:Nj w E.B2 E.bl g s.o
 sz:E.B2≤w.heap.size
def Jn.Free(E:Jn)(g:Option Nat)(k:Nat):Prop:=k≠E.bl∧k≠E.bm∧k≠E.bw∧g≠some k
structure Et(E:Jn)(g g':Option Nat)(w w':World):Prop where
 fr:Fr (fun k=>¬E.Free g k) w w'
 keep:∀k,k<w.heap.size→E.Free g k→E.Free g' k
section
variable {E:Jn} {s:Bw} {g g' g'':Option Nat} {w w' w'':World}
theorem Et.refl(E:Jn)(g:Option Nat)(w:World):Et E g g w w:=⟨Fr.refl _ _,fun _ _ h=>h⟩
theorem Et.of_below(hb:Below w.heap.size w w'):Et E g g w w':=⟨Fr.of_below hb _,fun _ _ h=>h⟩
theorem Et.trans(h:Et E g g' w w')(h':Et E g' g'' w' w''):Et E g g'' w w'':=
 ⟨h.fr.trans h'.fr (fun k hk hn hf=>hn (h.keep k hk hf)),fun k hk hf=>h'.keep k (Nat.lt_of_lt_of_le hk h.fr.size) (h.keep k hk hf)⟩
theorem Et.below(h:Et E g g' w w')(hb:Below w'.heap.size w' w''):Et E g g' w w'':=h.trans (Et.of_below hb)
theorem Et.drew(h:Et E g g' w w'):Et E g g' w w'.drew:=h.below ((Af _ _).drew)
theorem Et.alloc(h:Et E g g' w w')(o:Obj):Et E g g' w (w'.alloc o):=h.below ((Af _ _).alloc (Ae _) o)
def Jo(E:Jn)(g:Option Nat)(w:World)(k:Nat)(t:TypeId)(cs:Array Value):Prop:=Bk w k t cs∧E.Free g k
theorem Jo.to{t:TypeId}(h:Jo E g w k t cs)(ht:Et E g g' w w'):Jo E g' w' k t cs:=⟨h.1.fr ht.fr (fun hn=>hn h.2),ht.keep k h.1.lt h.2⟩
theorem Jo.pure{t:TypeId}(h:Jo E g w k t cs)(hb:Below w.heap.size w w'):Jo E g w' k t cs:=⟨h.1.pure hb,h.2⟩
theorem Jo.drew{t:TypeId}(h:Jo E g w k t cs):Jo E g w.drew k t cs:=h
theorem Gb.pure(h:Gb E g s w)(hb:Below w.heap.size w w'):Gb E g s w':=⟨h.ok,h.b.pure hb,h.W.pure hb,h.M.pure hb,h.O.pure hb,Nat.le_trans h.sz hb.size⟩
theorem Gb.drew(h:Gb E g s w):Gb E g s w.drew:=h.pure ((Af _ _).drew)
theorem Gb.alloc(h:Gb E g s w)(o:Obj):Gb E g s (w.alloc o):=h.pure ((Af _ _).alloc (Ae _) o)
theorem Gb.len(h:Gb E g s w):E.l.length=E.n:=h.b.1
theorem Gb.new(h:Gb E g s w):E.Free g w.heap.size:=by
 have:=h.sz;have:=h.ok.l2;have:=h.ok.m2;have:=h.ok.w2;refine⟨by omega,by omega,by omega,fun e=>?_⟩;have:=(h.O.row _ e).2;omega
theorem Gb.lone(h:Gb E g s w)(t:TypeId)(cs:Array Value):Jo E g (w.alloc (.cells cs t)) w.heap.size t cs:=⟨Bk.new w t cs,h.new⟩
theorem Gb.low(h:Gb E g s w)(hk:k<E.B0):E.Free g k:=by
 have:=h.ok.l0;have:=h.ok.l2;have:=h.ok.m0;have:=h.ok.w0;refine⟨by omega,by omega,by omega,fun e=>?_⟩;have:=(h.O.row _ e).1;omega
theorem Et.belowB(h:Et E g g' w w')(hw:Gb E g s w):Below E.B0 w w':=by
 refine h.fr.belowB (fun k hk hn=>hn (hw.low hk)) ?_;have:=hw.sz;have:=hw.ok.l0;have:=hw.ok.l2;omega
theorem Gb.cells(h:Gb E g s w):w.cell? ⟨E.bw,0,none⟩=some (.slice E.A E.n E.c)∧w.cell? ⟨E.bw,1,none⟩=some (Aa Ab s.left)∧w.cell? ⟨E.bw,2,none⟩=some (.map (some E.bm))∧
  w.cell? ⟨E.bw,3,none⟩=some (.func (.func 44) #[] #[Afh E.bl]):=⟨h.W.cell 0,h.W.cell 1,h.W.cell 2,h.W.cell 3⟩
theorem lI{l':List P3}(h:Gb E g s w)(ht:uT E.B2 E.bl g l' w w'):∃g',Gb E g' { s with o:=l'} w'∧Et E g g' w w':=by
 have a:=h.ok;obtain⟨g',m,d,n⟩:=ht;have row:=h.O.row;have i:∀k,k<E.B2→k≠E.bl→¬(k=E.bl∨some k=g):=by
  rintro k h1 h2 (h3|h3)
  ·exact h2 h3
  ·have:=(row k h3.symm).1;omega
 refine⟨g',⟨a,h.b.fr d ?_,h.W.fr d (i _ a.w2 (Ne.symm a.lw)),h.M.fr d (i _ a.m2 (Ne.symm a.lm)),m,Nat.le_trans h.sz d.size⟩,d.mono ?_,?_⟩
 ·intro l f;have:=a.hA l f;have:=a.l0;have:=a.l2;exact i _ (by omega) (by omega)
 ·rintro k _ (rfl|e) c
  ·exact c.1 rfl
  ·exact c.2.2.2 e.symm
 ·intro k p c;refine⟨c.1,c.2.1,c.2.2.1,?_⟩;rcases n with rfl|⟨j,rfl,q⟩
  ·exact c.2.2.2
  ·intro e;injection e with e
   omega
theorem Ht(a b c:Int)(h:Gb E g s w)(hs:s.o.length≤1073741824):
  Calls Ad 44 #[Aa Ab a,Aa Ab b,Aa Ab c,Afh E.bl] w fun e w'=>e= .returned (.tuple #[])∧∃g',Gb E g' (s.tell a b c) w'∧Et E g g' w w':=by
 have f:E.B2≤w.heap.size:=h.sz;by_cases d:a<b
 ·refine(yM E.B2 E.bl g a b c s.o w h.O d hs h.sz h.ok.l2).mono ?_;rintro e w' ⟨rfl,ht⟩;have e:s.tell a b c={ s with o:=s.o++ [(a,b,c)]}:=if_pos d;rw [e];exact⟨rfl,lI h ht⟩
 ·refine(Abx E.B2 E.bl g a b c s.o w h.O d).mono ?_;rintro e w' ⟨rfl,ht⟩;have e:s.tell a b c=s:=if_neg d;rw [e];exact⟨rfl,lI h ht⟩
end
def Vx(E:Jn)(g:Option Nat)(w:World)(y:Bw×Int)(e:Ending)(w':World):Prop:=e= .returned (Aa Ab y.2)∧∃g',Gb E g' y.1 w'∧Et E g g' w w'
theorem B8{p:Addr}{u:Value}(h:w.cell? p=some u):w.drew.cell? p=some u:=h
theorem uF(A:Option Addr)(n c:Nat)(p q t v a m er:Int)(l:List UInt8)(w:World)(h:Cv w A n l)(hc:n≤c)(hn:n≤1099511627776)(h0:Dj l p q t v [4,5,25]=a)(h1:((Fc l p q t v [4,5,25]).length:Int)=m)(h2:D7 l p q t v [4,5,25]=er):
  Calls Ad 150 #[.slice A n c,.agg (Afg p q t v)] w (Afc (.tuple #[Aa Ab a,Aa Ab m,Aa Ab er]) w):=by
 subst h0 h1 h2;exact oG A n c p q t v l w h hc hn
theorem gD(s:Bw)(a b c:Int):(s.tell a b c).o.length≤s.o.length+1:=by
 unfold Bw.tell;by_cases h:a<b
 ·rw [if_pos h];simp
 ·rw [if_neg h];omega
theorem Wn{v:Int}(h:D7 l p q t v [4,5,25]=0):0≤Dj l p q t v [4,5,25]∧Dj l p q t v [4,5,25]+(Fc l p q t v [4,5,25]).length≤l.length∧0≤v∧v≤8∧Co l.length p q t v=0:=by
 have b:Co l.length p q t v=0:=by
  by_cases g:Co l.length p q t v=0
  ·exact g
  ·unfold D7 at h;rw [if_pos g] at h;exact absurd h g
 obtain⟨a,h1,_,h3⟩:=wI h;have c:=Cr.1 (Du.1 (Fg.1 b).1).2.2;refine⟨by omega,by omega,by omega,by omega,b⟩
theorem Pp(E:Jn)(g:Option Nat)(s:Bw)(p q t v:Int)(w:World)(h:Gb E g s w)(hs:s.o.length≤1000000000):
  Calls Ad 80 #[Afh E.bw,.agg (Afg p q t v)] w (Vx E g w (Ey E.l ⟨p,q,t,v⟩ s)):=by
 have j:=Hd (h.alloc (.cells (Afg p q t v) 70));have d:=Hd (h.lone 70 (Afg p q t v));have k:=Hd ((Et.refl E g w).alloc (.cells (Afg p q t v) 70));obtain⟨a,S⟩:∃a,Dj E.l p q t v [4,5,25]=a:=⟨_,rfl⟩;obtain⟨m,T⟩:∃m:Int,((Fc E.l p q t v [4,5,25]).length:Int)=m:=⟨_,rfl⟩;obtain⟨L,J⟩:∃a,D7 E.l p q t v [4,5,25]=a:=⟨_,rfl⟩;have F:=Hd S;have D:=Hd T;have C:=Hd J;have P:=h.ok.hc;have Z:=h.ok.hn;have K:=h.len;clear h S T J;obtain⟨r,G,H,u⟩:=j.o.cells;have x:=B9 d.o.1;have y:=B7 d.o.1;have z:=B6 d.o.1;have B:=Ca d.o.1;go_enter func80,ntmps80;go_wp2_with fail;go_region_held3 (fun w'=>w'.cell? ⟨E.bw,0,none⟩=some (.slice E.A E.n E.c)∧w'.cell? ⟨E.bw,3,none⟩=some (.func (.func 44) #[] #[Afh E.bl])∧(w'.cell? ⟨w.heap.size,0,none⟩=some (Aa Ab p)∧w'.cell? ⟨w.heap.size,1,none⟩=some (Aa Ab q)∧w'.cell? ⟨w.heap.size,2,none⟩=some (Aa Ab t)∧w'.cell? ⟨w.heap.size,3,none⟩=some (Aa Ab v))) (first|with_reducible exact⟨r,u,x,y,z,B⟩|with_reducible exact⟨B8 r,B8 u,B8 x,B8 y,B8 z,B8 B⟩) (first|(go_at_call 150;(with_reducible refine(uF E.A E.n E.c p q t v a m L E.l _ j.o.drew.b P (by omega) F.o D.o C.o).mono ?_);rintro e w1 ⟨rfl,I⟩;replace k:=Hd (k.o.drew.below I);replace j:=Hd (j.o.drew.pure I);replace d:=Hd (d.o.drew.pure I);clear r G H u x y z B;clear I;obtain⟨r,G,H,u⟩:=j.o.cells;have x:=B9 d.o.1;have y:=B7 d.o.1;have z:=B6 d.o.1;have B:=Ca d.o.1));by_cases J:L=0
 ·subst J;obtain⟨V,R,b2,b3,_⟩:=Wn C.o;rw [F.o] at V R;have W:0≤m:=by have:=D.o;omega
  have X:a+m≤4294967296:=by have:=D.o;omega
  clear R K;by_cases N:t=4
  ·subst N;go_wp2_with (go_at_call 44;(with_reducible refine(Ht a (a+m+1) 9 j.o (by omega)).mono ?_);rintro e Q ⟨rfl,M,i,f⟩;replace k:=Hd (k.o.trans f);replace d:=Hd (d.o.to f);replace j:=Hd i;clear r G H u x y z B;clear i f;obtain⟨r,G,H,u⟩:=j.o.cells;have x:=B9 d.o.1;have y:=B7 d.o.1;have z:=B6 d.o.1;have B:=Ca d.o.1);go_ret;have e:Ey E.l ⟨p,q,4,v⟩ s=(s.tell a (a+m+1) 9,0):=by
    unfold Ey;rw [C.o,F.o,D.o];rfl
   rw [e];exact⟨rfl,_,j.o,k.o⟩
  ·have e4:(t==4)=false:=beq_eq_false_iff_ne.mpr N;have s1:=gD s (a-v) a 6;have hw:IntKind.i64.wrap (a-v)=a-v:=IntWalk.i64_in _ (by omega);go_wp2_with fail;go_region_held3 (fun w'=>w'.cell? ⟨E.bw,0,none⟩=some (.slice E.A E.n E.c)∧w'.cell? ⟨E.bw,3,none⟩=some (.func (.func 44) #[] #[Afh E.bl])∧(w'.cell? ⟨w.heap.size,0,none⟩=some (Aa Ab p)∧w'.cell? ⟨w.heap.size,1,none⟩=some (Aa Ab q)∧w'.cell? ⟨w.heap.size,2,none⟩=some (Aa Ab t)∧w'.cell? ⟨w.heap.size,3,none⟩=some (Aa Ab v))) (first|with_reducible exact⟨r,u,x,y,z,B⟩|with_reducible exact⟨B8 r,B8 u,B8 x,B8 y,B8 z,B8 B⟩) (first|(go_at_call 44;(with_reducible refine(Ht (a-v) a 6 j.o.drew (by omega)).mono ?_);rintro e Q ⟨rfl,M,i,f⟩;replace k:=Hd (k.o.drew.trans f);replace d:=Hd (d.o.drew.to f);replace j:=Hd i;clear r G H u x y z B;clear i f;obtain⟨r,G,H,u⟩:=j.o.cells;have x:=B9 d.o.1;have y:=B7 d.o.1;have z:=B6 d.o.1;have B:=Ca d.o.1));by_cases O:t=5
   ·subst O;go_wp2_with (go_at_call 44;(with_reducible refine(Ht a (a+m+1) 10 j.o (by omega)).mono ?_);rintro e Q ⟨rfl,M,i,f⟩;replace k:=Hd (k.o.trans f);replace d:=Hd (d.o.to f);replace j:=Hd i;clear r G H u x y z B;clear i f;obtain⟨r,G,H,u⟩:=j.o.cells;have x:=B9 d.o.1;have y:=B7 d.o.1;have z:=B6 d.o.1;have B:=Ca d.o.1);go_ret;have e:Ey E.l ⟨p,q,5,v⟩ s=((s.tell (a-v) a 6).tell a (a+m+1) 10,0):=by
     unfold Ey;rw [C.o,F.o,D.o];rfl
    rw [e];exact⟨rfl,_,j.o,k.o⟩
   ·have e5:(t==5)=false:=beq_eq_false_iff_ne.mpr O;go_wp2_with (go_at_call 44;(with_reducible refine(Ht a (a+m) 11 j.o (by omega)).mono ?_);rintro e Q ⟨rfl,M,i,f⟩;replace k:=Hd (k.o.trans f);replace d:=Hd (d.o.to f);replace j:=Hd i;clear r G H u x y z B;clear i f;obtain⟨r,G,H,u⟩:=j.o.cells;have x:=B9 d.o.1;have y:=B7 d.o.1;have z:=B6 d.o.1;have B:=Ca d.o.1);go_ret;have e:Ey E.l ⟨p,q,t,v⟩ s=((s.tell (a-v) a 6).tell a (a+m) 11,0):=by
     unfold Ey;rw [C.o,F.o,D.o];simp [N,O]
    rw [e];exact⟨rfl,_,j.o,k.o⟩
 ·have Y:(L != 0)=true:=by simpa using J
  have e:Ey E.l ⟨p,q,t,v⟩ s=(s,L):=by
   unfold Ey;rw [C.o,if_pos J]
  have U:=Hd e;clear e J;go_wp2_with fail;go_ret;rw [U.o];exact⟨rfl,_,j.o,k.o⟩
def Bw.size(s:Bw):Nat:=s.o.length+8*s.left.toNat
theorem Iz(s:Bw)(a b c:Int):(s.tell a b c).left=s.left:=by unfold Bw.tell;split <;>rfl
theorem Kp(s:Bw)(a b c:Int):(s.tell a b c).had=s.had:=by unfold Bw.tell;split <;>rfl
theorem Tj(s:Bw)(a b c:Int):(s.tell a b c).size≤s.size+1:=by
 unfold Bw.size;rw [Iz];have:=gD s a b c;omega
def F0(k:Nat)(s s':Bw):Prop:=s'.left≤s.left∧s'.size≤s.size+k
theorem F0.refl(s:Bw):F0 0 s s:=⟨Int.le_refl _,Ae _⟩
theorem F0.mono{s s':Bw}(h:F0 k s s')(hk:k≤j):F0 j s s':=⟨h.1,by have:=h.2;omega⟩
theorem F0.trans{s s' s'':Bw}(h:F0 k s s')(h':F0 j s' s''):F0 (k+j) s s'':=⟨Int.le_trans h'.1 h.1,by have:=h.2;have:=h'.2;omega⟩
theorem H7(s:Bw)(a b c:Int):F0 1 s (s.tell a b c):=⟨by rw [Iz];exact Int.le_refl _,Tj s a b c⟩
def R6(go:Rq→Bw→Bw×Int):Prop:=∀r s,F0 0 s (go r s).1∧((go r s).2=0→(go r s).1.size+4≤s.size)
section
variable {l:List UInt8} {go:Rq→Bw→Bw×Int} (r:Rq)
theorem uC(s:Bw):F0 2 s (Ey l r s).1:=by
 unfold Ey;split
 ·exact(F0.refl s).mono (by omega)
 ·split
  ·exact(H7 _ _ _ _).mono (by omega)
  ·split
   ·exact(H7 _ _ _ _).trans (H7 _ _ _ _)
   ·exact(H7 _ _ _ _).trans (H7 _ _ _ _)
theorem lY(s:Bw):F0 2 s (E7 l r s).1:=by
 unfold E7;split
 ·exact(H7 _ _ _ _).mono (by omega)
 ·exact(F0.refl s).mono (by omega)
theorem rW(hgo:R6 go)(s:Bw):F0 0 s (Hz l go r s).1:=by
 unfold Hz;split
 ·exact F0.refl s
 ·split
  ·exact(hgo _ _).1
  ·rename_i h;have h:=(hgo (En l r) s).2 (Decidable.of_not_not h);have h1:=(hgo (En l r) s).1;have h2:=H7 (go (En l r) s).1 (lsFrom l r.p r.q r.t r.v+r.v) (lsFrom l r.p r.q r.t r.v+2*r.v) 7;exact⟨Int.le_trans h2.1 h1.1,by have:=h2.2;simp only at this ⊢;omega⟩
theorem Vs(i:Nat)(s:Bw):F0 1 s (F8 l r i s):=by
 unfold F8;split
 ·exact H7 _ _ _ _
 ·exact(F0.refl s).mono (by omega)
theorem eK(s:Bw):F0 1 s (Jk l r s):=by
 unfold Jk;split
 ·exact H7 _ _ _ _
 ·exact(F0.refl s).mono (by omega)
theorem Wj(hgo:R6 go):∀(k i:Nat) (s:Bw),F0 1 s (D0 l go r k i s).1
 |0,i,s=>(F0.refl s).mono (by omega)
 |k+1,i,s=>by
  unfold D0;split
  ·exact Vs r i s
  ·have ht:=Vs (l:=l) r i s;have a:=hgo (Ga l r i) (F8 l r i s);split
   ·exact ht.trans a.1
   ·rename_i h;have h:=a.2 (Decidable.of_not_not h);have b:=Wj hgo k (i+1) (go (Ga l r i) (F8 l r i s)).1;exact⟨Int.le_trans b.1 (Int.le_trans a.1.1 ht.1),by have:=b.2;have:=ht.2;omega⟩
theorem Sy(hgo:R6 go)(s:Bw):F0 0 s (Em l go r s).1:=by
 unfold Em;split
 ·exact rW r hgo s
 ·exact F0.refl s
theorem sG(hgo:R6 go)(s:Bw):F0 2 s (Gl l go r s).1:=by
 unfold Gl;split
 ·exact(F0.refl s).mono (by omega)
 ·split
  ·exact(Sy r hgo s).mono (by omega)
  ·exact((Sy r hgo s).trans (eK r _)).trans (Wj r hgo _ _ _)
theorem qP(hgo:R6 go)(s:Bw):F0 2 s (Ee l go r s).1:=by
 unfold Ee;split
 ·exact uC r s
 ·split
  ·exact lY r s
  ·exact sG r hgo s
end
theorem oM(r:Rq)(s:Bw)(h:¬s.left<1):(C7 r s).left≤s.left∧(C7 r s).size+7≤s.size:=by
 unfold C7;have h1:=Tj s.burn r.p (r.p+r.q) (Er r.t);rw [Iz];have e:s.burn.size+8=s.size:=by unfold Bw.size Bw.burn;simp only;omega
 exact⟨by unfold Bw.burn;simp only;omega,by omega⟩
theorem Sf(l:List UInt8):∀d,R6 (Ct l d)
 |0,r,s=>⟨F0.refl s,fun h=>by cases h⟩
 |d+1,r,s=>by
  unfold Ct;split
  ·exact⟨F0.refl s,fun h=>by cases h⟩
  ·rename_i hl;obtain⟨h1,h2⟩:=oM r s hl;split
   ·exact⟨⟨h1,by simp only;omega⟩,fun _=>by simp only;omega⟩
   ·split
    ·exact⟨⟨h1,by simp only;omega⟩,fun _=>by simp only;omega⟩
    ·have a:=qP (l:=l) r (Sf l d) ((C7 r s).see (F7 l r));have b:((C7 r s).see (F7 l r)).left=(C7 r s).left:=rfl;have c:((C7 r s).see (F7 l r)).size=(C7 r s).size:=rfl;rw [F0,b,c] at a;exact⟨⟨Int.le_trans a.1 h1,by have:=a.2;omega⟩,fun _=>by have:=a.2;omega⟩
end
section
open Go.Acc
structure Fk(L:List UInt8)(s:Nat)(vs:List Bv)(v:Bv):Prop where
 w:Bz (v.w:Int)=true
 typ:K5 (v.t:Int)=true
 md:(s+v.n) % v.w=0
 ah:aheadT (v.t:Int)*v.w≤s+v.n
 n1:0<Df (v.t:Int)→Df (v.t:Int)=(vs.length:Int)
 n2:¬0<Df (v.t:Int)→loadU L (((s+v.n:Nat):Int)-(v.w:Int)) (v.w:Int)=vs.length
 sp:s+v.n+vs.length*(v.w+tgs (v.t:Int))≤L.length
 tags:Cj (v.t:Int)=true→At L (s+v.n+vs.length*v.w) (vs.map (Dl v.w))
 el:∀(i:Nat) y,vs[i]?=some y→At L (s+v.n+i*v.w) (Bn v.w (Da v.w (v.n+i*v.w) y))∧aS v.w (v.n+i*v.w) y
theorem Zo{w:Nat}(hw:Bz (w:Int)=true)(b:List UInt8)(k:Nat)(h:n=(Bm w b).length+k*w):n % w=0:=by
 have:=(Hu hw b).2.1;rw [h,Nat.add_mul_mod_self_right];exact this
theorem Dc.mod{t:Nat}{len:Bool}(h:Dc l t len tags vs v):v.n % v.w=0:=by
 have hw:=h.width.2;obtain⟨b,m,rfl,rfl,_⟩:=h;obtain⟨w,hwd⟩:∃w,C3 b.length (if len=true then 1 else 0) none vs=w:=⟨_,rfl⟩;simp only [Cd,hwd] at hw⊢;refine Zo hw b (if len=true then 1 else 0) ?_;rw [Ah];cases len <;>simp [Bo]
theorem G5.mod{k:Bv}(h:G5 l k vs v):v.n % v.w=0:=by
 have hw:=h.width.2;obtain⟨b,m,rfl,rfl,_⟩:=h;obtain⟨w,hwd⟩:∃w,C3 b.length 3 (some k) vs=w:=⟨_,rfl⟩;simp only [Ef,hwd] at hw⊢;refine Zo hw b 3 ?_;simp only [Ah,Bo];omega
theorem Ta{w:Nat}(hw:Bz (w:Int)=true)(hs:s % 8=0)(h:n % w=0):(s+n) % w=0:=by
 rcases C8.1 hw with rfl|rfl|rfl|rfl <;>omega
theorem Ml{a w:Nat}(hw:Bz (w:Int)=true)(h:At L a (Bn w u))(hu:u<2^(8*w)):loadU L (a:Int) (w:Int)=u:=by
 rw [h.load hw,Hr,Nat.mod_eq_of_lt hu]
theorem gL:∀T∈ [9,10,11,12,14,36,16,17,19,20,22,23],K5 (T:Nat)=true∧Bq (T:Nat)=false:=by decide
theorem Ab3:∀T∈ [10,11,12,14,36],Df ((T:Nat):Int)=0∧aheadT ((T:Nat):Int)=1:=by decide
theorem Ad2:∀T∈ [16,17,19,20,22,23],aheadT ((T:Nat):Int)=0∧tgs ((T:Nat):Int)=0∧Cj ((T:Nat):Int)=false:=by decide
theorem gM:∀T∈ [11,12,14,36],tgs ((T:Nat):Int)=0∧Cj ((T:Nat):Int)=false:=by decide
theorem El(h:Dc l T true tags vs v)(hb:l.length<2^32)(x:List UInt8)(hx:x.length % 8=0)(hT:(T=10∧tags=true)∨((T=11∨T=12∨T=14∨T=36)∧tags=false)):
  Fk (x++l) x.length vs v:=by
 obtain⟨ht,d⟩:=h.width;have m:=h.mod;have a:=h.facts hb x;obtain⟨c,j,g,k⟩:=a.len rfl;have f:T∈ [10,11,12,14,36]:=by simp;omega
 obtain⟨p,q⟩:=Ab3 T f;have b:vs.length*v.w+vs.length*tgs (v.t:Int)≤vs.length*v.w+(if tags=true then vs.length else 0):=by
  rw [ht];rcases hT with⟨rfl,rfl⟩|⟨hT,rfl⟩
  ·have e:tgs ((10:Nat):Int)=1:=by decide
   rw [e];simp
  ·have:=(gM T (by simp;omega)).1;rw [this];simp
 refine⟨d,?_,Ta d hx m,?_,?_,?_,?_,?_,?_⟩
 ·rw [ht];exact(gL T (by simp;omega)).1
 ·rw [ht,q,j];omega
 ·rw [ht,p];intro h0;omega
 ·intro _;have e:((x.length+v.n:Nat):Int)-(v.w:Int)=((x.length+c:Nat):Int):=by omega
  rw [e];exact Ml d g k
 ·rw [Nat.mul_add];have h1:=a.le;cases tags with
  |false=>simp only [Bool.false_eq_true,if_false] at b;omega
  |true=>
   have h2:=(a.tags rfl).le;rw [As] at h2;simp only [if_true] at b;omega
 ·rw [ht];rcases hT with⟨rfl,rfl⟩|⟨hT,rfl⟩
  ·intro _;have:=a.tags rfl
   rwa [←Nat.add_assoc] at this
  ·rw [(gM T (by simp;omega)).2];intro h;cases h
 ·intro i y o;obtain⟨h1,h2⟩:=a.el i y o;rw [←Nat.add_assoc] at h1;exact⟨h1,h2⟩
theorem Mi(h:Dc l T false false vs v)(hb:l.length<2^32)(x:List UInt8)(hx:x.length % 8=0)(hT:T=16∨T=17∨T=19∨T=20∨T=22∨T=23)(hn:Df (T:Int)=(vs.length:Int)):
  Fk (x++l) x.length vs v:=by
 obtain⟨ht,b⟩:=h.width;have d:=h.mod;have a:=h.facts hb x;have c:T∈ [16,17,19,20,22,23]:=by simp;omega
 obtain⟨g,j,k⟩:=Ad2 T c;refine⟨b,?_,Ta b hx d,?_,?_,?_,?_,?_,?_⟩
 ·rw [ht];exact(gL T (by simp;omega)).1
 ·rw [ht,g];omega
 ·rw [ht];intro _;exact hn
 ·rw [ht];intro h0;have e:0<Df (T:Int):=by
   rcases hT with rfl|rfl|rfl|rfl|rfl|rfl <;>decide
  exact absurd e h0
 ·rw [ht,j,Nat.add_zero,Nat.add_assoc];exact a.le
 ·rw [ht,k];intro h;cases h
 ·intro i y f;obtain⟨h1,h2⟩:=a.el i y f;rw [←Nat.add_assoc] at h1;exact⟨h1,h2⟩
theorem Vg{k:Bv}(h:G5 l k vs v)(hk:inl k.t=false)(hb:l.length<2^32)(x:List UInt8)(hx:x.length % 8=0):Fk (x++l) x.length vs v:=by
 obtain⟨ht,b⟩:=h.width;have j:=h.mod;have a:=h.facts hk hb x;obtain⟨c,f,_,_,_,_,d,g⟩:=a.head;have p:aheadT (9:Int)=3:=by decide
 have o:Df (9:Int)=0:=by decide
 have q:tgs (9:Int)=1:=by decide
 refine⟨b,?_,Ta b hx j,?_,?_,?_,?_,?_,?_⟩
 ·rw [ht];decide
 ·rw [ht];show aheadT (9:Int)*v.w≤_;rw [p,f];omega
 ·rw [ht];show 0<Df (9:Int)→Df (9:Int)=_;rw [o];intro h0;omega
 ·intro _;have e:((x.length+v.n:Nat):Int)-(v.w:Int)=((x.length+(c+2*v.w):Nat):Int):=by omega
  rw [e];exact Ml b d g
 ·rw [ht];show x.length+v.n+vs.length*(v.w+tgs (9:Int))≤_;rw [q,Nat.mul_add];have h1:=a.le;have h2:=a.tags.le;rw [As] at h2;omega
 ·intro _;have:=a.tags
  rwa [←Nat.add_assoc] at this
 ·intro i y m;obtain⟨h1,h2⟩:=a.el i y m;rw [←Nat.add_assoc] at h1;exact⟨h1,h2⟩
structure Lh(L:List UInt8)(s:Nat)(v:Bv)(p q:Int):Prop where
 may:Co L.length p q (v.t:Int) (v.w:Int)=0
 tgE:Ch L p q (v.t:Int) (v.w:Int)=0
 tg:Cg L p q (v.t:Int) (v.w:Int)=((s+v.n:Nat):Int)
theorem N1(h:Fk L s vs v)(r:Lh L s v p q):
  C2 L p q (v.t:Int) (v.w:Int)=0∧lsLen L p q (v.t:Int) (v.w:Int)=vs.length∧lsAt L p q (v.t:Int) (v.w:Int)=s+v.n:=by
 have c:K8 L p q (v.t:Int) (v.w:Int)=vs.length:=by
  unfold K8;by_cases a:0<Df (v.t:Int)
  ·rw [if_pos a,h.n1 a];rfl
  ·rw [if_neg a,r.tg];exact h.n2 a
 have b:C2 L p q (v.t:Int) (v.w:Int)=0:=by
  unfold C2;rw [r.may,r.tgE,r.tg,h.typ,c];have h1:=h.md;have h2:=h.ah;have h3:=h.sp;unfold Na;rw [if_neg (by simp),if_neg (by simp),if_neg (by simp),if_neg (by omega),Ay,Ay,if_neg (by omega),if_neg (by omega)]
 refine⟨b,?_,?_⟩
 ·unfold lsLen;rw [if_pos b,c]
 ·unfold lsAt;rw [if_pos b,r.tg];rfl
theorem eP(h:Fk L s vs v)(r:Lh L s v p q){i:Nat}{y:Bv}(hy:vs[i]?=some y)(hl:Cj (v.t:Int)=true→Cb (y.t:Int)=true∧Bz (y.w:Int)=true):
  F5 L p q (v.t:Int) (v.w:Int) (i:Int)=0∧Ka L p q (v.t:Int) (v.w:Int) (i:Int)=((s+v.n+i*v.w:Nat):Int)∧Kb L p q (v.t:Int) (v.w:Int) (i:Int)=(v.w:Int)∧
   Kv L p q (v.t:Int) (v.w:Int) (i:Int)=(if Cj (v.t:Int)=true then(y.t:Int) else E9 (v.t:Int))∧Kw L p q (v.t:Int) (v.w:Int) (i:Int)=(if Cj (v.t:Int)=true then(ownW v.w y:Int) else(v.w:Int)):=by
 obtain⟨g,e,f⟩:=N1 h r;have m:=(List.getElem?_eq_some_iff.1 hy).1;have a:Cj (v.t:Int)=true→Np L p q (v.t:Int) (v.w:Int) (i:Int)=Dl v.w y:=by
  intro ht;have l:=h.tags ht;unfold Np;rw [f,e,Ay,Ay,List.getD_eq_getElem?_getD,l.get (by simpa using m),List.getElem?_map,hy];rfl
 have b:Cj (v.t:Int)=true→Ng (Dl v.w y)=(y.t:Int)∧Nh (Dl v.w y)=(ownW v.w y:Int)∧Iv (Dl v.w y)=0:=by
  intro ht;obtain⟨j,k⟩:=hl ht;have d:Bz (ownW v.w y:Int)=true:=by
   unfold ownW;split
   ·exact h.w
   ·exact k
  exact Xo y.t (ownW v.w y) j d
 have c:F5 L p q (v.t:Int) (v.w:Int) (i:Int)=0:=by
  unfold F5;rw [g,e,if_neg (by simp),if_neg (by omega)];by_cases ht:Cj (v.t:Int)=true
  ·rw [if_pos ht,a ht];exact(b ht).2.2
  ·rw [if_neg ht]
 refine⟨c,?_,?_,?_,?_⟩
 ·unfold Ka;rw [if_pos c,f,Ay,Ay];omega
 ·unfold Kb;rw [if_pos c]
 ·unfold Kv;rw [if_pos c];by_cases ht:Cj (v.t:Int)=true
  ·rw [if_pos ht,if_pos ht,a ht];exact(b ht).1
  ·rw [if_neg ht,if_neg ht]
 ·unfold Kw;rw [if_pos c];by_cases ht:Cj (v.t:Int)=true
  ·rw [if_pos ht,if_pos ht,a ht];exact(b ht).2.1
  ·rw [if_neg ht,if_neg ht]
end
end Go.Proofs.YtejpbijeifjdeaaGreat
