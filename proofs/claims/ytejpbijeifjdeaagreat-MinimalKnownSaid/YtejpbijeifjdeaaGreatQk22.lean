/- Parts of the proof. -/
import Derived.Test.YtejpbijeifjdeaaGreatQk21
set_option maxHeartbeats 2000000
set_option maxRecDepth 100000
open Go.Value renaming int→Aa
open Go.IntKind renaming i64→Ab
open Nat renaming le_refl→Ae
open Go.RowKit.Below renaming refl→Af
open Go.IntWalk renaming i64_in→Ag
open Go.Proofs.Tryz
open Go.Proofs.Tryz renaming prog→Ad
namespace Go.Proofs.YtejpbijeifjdeaaGreat
open Go.RowKit Go.Acc
variable {w w':World}{B b k j:Nat}{g:Option Nat}{cs:Array Value}{l:List UInt8}{p q t v:Int}
def Vl:Array MapEntry:=#[⟨Aa Ab 0,Aa Ab 1,0⟩,⟨Aa Ab 1,Aa Ab 2,1⟩,⟨Aa Ab 2,Aa Ab 3,2⟩,⟨Aa Ab 26,Aa Ab 4,3⟩]
theorem yX(t:Int):∃(k:Int) (b:Bool),(if b=true then k else 5)=Fz t∧∀(W:World) (g:Nat),W.heap[g]?=some (.map Vl 4)→
  (Instr.lookup 184 (.map (some g)) (Aa Ab t) true).run Ad W= .ok (.tuple #[Aa Ab k,.bool b]) W:=by
 have i:∀W:World,(zeroValue 3).run Ad W= .ok (Aa Ab 0) W:=by intro W;go_simp
 have a:∀(r:Option (Nat×Value)) (W:World) (g:Nat),Instr.findNow (.int .i64) (Aa Ab t) Vl.toList 0=some r→W.heap[g]?=some (.map Vl 4)→(Instr.lookup 184 (.map (some g)) (Aa Ab t) true).run Ad W= .ok (.tuple #[(r.map (·.2)).getD (Aa Ab 0),.bool r.isSome]) W:=by
  intro r W g h hb;exact Rh underlying184 underlying3 (Aa Ab 0) i W Vl 4 g t true r hb h
 by_cases h0:t=0
 ·subst h0;exact⟨1,true,rfl,fun W g hb=>a (some (0,Aa Ab 1)) W g rfl hb⟩
 by_cases h1:t=1
 ·subst h1;exact⟨2,true,rfl,fun W g hb=>a (some (1,Aa Ab 2)) W g rfl hb⟩
 by_cases h2:t=2
 ·subst h2;exact⟨3,true,rfl,fun W g hb=>a (some (2,Aa Ab 3)) W g rfl hb⟩
 by_cases h3:t=26
 ·subst h3;exact⟨4,true,rfl,fun W g hb=>a (some (3,Aa Ab 4)) W g rfl hb⟩
 refine⟨0,false,by simp [Fz,h0,h1,h2,h3],fun W g hb=>a none W g ?_ hb⟩;have c:(t==0)=false:=by simpa using h0
 have d:(t==1)=false:=by simpa using h1
 have e:(t==2)=false:=by simpa using h2
 have f:(t==26)=false:=by simpa using h3
 simp only [Vl,Instr.findNow,Instr.sameNow,if_true,c,d,e,f]
theorem vE(t:Int)(w:World):Calls Ad 77 #[Aa Ab t] w (Adh (Aa Ab (Fz t)) w):=by
 have h0:=run_makeMap (P:=Ad) 184;have h1:∀(W:World) (es:Array MapEntry) (c:Nat) (x:Int) (v:Value),Instr.findNow (.int .i64) (.int .i64 x) es.toList 0=some none→(Instr.mapUpdate 184 (.map (some W.heap.size)) (.int .i64 x) v).run Ad (W.alloc (.map es c))= .ok () (W.alloc (.map (es.push { key:= .int .i64 x,val:=v,born:=c}) (c+1))):=
  fun W es c x v h=>Tw underlying184 underlying3 W es c _ x v rfl h
 have f:∀W:World,(Instr.mapUpdate 184 (.map (some W.heap.size)) (.int .i64 0) (.int .i64 1)).run Ad (W.alloc (.map #[] 0))= .ok () (W.alloc (.map #[⟨.int .i64 0,.int .i64 1,0⟩] 1)):=fun W=>h1 W #[] 0 0 _ rfl
 have g:∀W:World,(Instr.mapUpdate 184 (.map (some W.heap.size)) (.int .i64 1) (.int .i64 2)).run Ad (W.alloc (.map #[⟨.int .i64 0,.int .i64 1,0⟩] 1))= .ok () (W.alloc (.map #[⟨.int .i64 0,.int .i64 1,0⟩,⟨.int .i64 1,.int .i64 2,1⟩] 2)):=fun W=>h1 W #[⟨.int .i64 0,.int .i64 1,0⟩] 1 1 _ rfl
 have i:∀W:World,(Instr.mapUpdate 184 (.map (some W.heap.size)) (.int .i64 2) (.int .i64 3)).run Ad (W.alloc (.map #[⟨.int .i64 0,.int .i64 1,0⟩,⟨.int .i64 1,.int .i64 2,1⟩] 2))= .ok () (W.alloc (.map #[⟨.int .i64 0,.int .i64 1,0⟩,⟨.int .i64 1,.int .i64 2,1⟩,⟨.int .i64 2,.int .i64 3,2⟩] 3)):=fun W=>h1 W #[⟨.int .i64 0,.int .i64 1,0⟩,⟨.int .i64 1,.int .i64 2,1⟩] 2 2 _ rfl
 have j:∀W:World,(Instr.mapUpdate 184 (.map (some W.heap.size)) (.int .i64 26) (.int .i64 4)).run Ad (W.alloc (.map #[⟨.int .i64 0,.int .i64 1,0⟩,⟨.int .i64 1,.int .i64 2,1⟩,⟨.int .i64 2,.int .i64 3,2⟩] 3))= .ok () (W.alloc (.map Vl 4)):=fun W=>h1 W #[⟨.int .i64 0,.int .i64 1,0⟩,⟨.int .i64 1,.int .i64 2,1⟩,⟨.int .i64 2,.int .i64 3,2⟩] 3 26 _ rfl
 clear h1;obtain⟨k,b,a,d⟩:=yX t;have e:=d (w.alloc (.map Vl 4)) w.heap.size (heap_alloc_new w _);rw [←a];clear d a;cases b with
 |true=>
  go_enter func77,ntmps77;go_wp2;go_ret;exact⟨rfl,(Af _ _).alloc (Ae _) _⟩
 |false=>
  go_enter func77,ntmps77;go_wp2;go_ret;exact⟨rfl,(Af _ _).alloc (Ae _) _⟩
def pc(x:P3):List Value:=[Aa Ab x.1,Aa Ab x.2.1,Aa Ab x.2.2]
theorem Gv(x:P3):(pc x).length=3:=rfl
theorem eQ(x:P3):∀u∈pc x,u.oneCell'=true:=by
 intro u hu;simp [pc] at hu;rcases hu with rfl|rfl|rfl <;>rfl
abbrev oD:=Is pc
abbrev F5:=Go.Acc.Own pc 3 46
theorem qA:(Ad.info? 46).map (fun i=>(i.zero,i.size,i.bytes))=some (some (.agg #[Aa Ab 0,Aa Ab 0,Aa Ab 0]),3,24):=by kernel_rfl
def Mm(w:World)(B b:Nat)(g:Option Nat)(l:List P3):Prop:=∃A n c,Bh w b 42 #[.slice A n c]∧F5 w B A n c l∧A.map (·.block)=g
theorem Mm.pure{l:List P3}(h:Mm w B b g l)(hb:Below w.heap.size w w'):Mm w' B b g l:=by
 obtain⟨A,n,c,h1,h2,h3⟩:=h;exact⟨A,n,c,h1.pure hb,h2.pure hb,h3⟩
theorem Mm.fr{l:List P3}{S:Nat→Prop}(h:Mm w B b g l)(hf:Fr S w w')(h1:¬S b)(h2:∀k,g=some k→¬S k):Mm w' B b g l:=by
 obtain⟨A,n,c,b1,b2,b3⟩:=h;exact⟨A,n,c,b1.fr hf h1,b2.fr hf (fun ad had=>h2 _ (by rw [←b3,had];rfl)),b3⟩
theorem Mm.row{l:List P3}(h:Mm w B b g l):∀k,g=some k→B≤k∧k<w.heap.size:=by
 obtain⟨A,n,c,_,h2,rfl⟩:=h;intro k hk;cases A with
 |none=>cases hk
 |some ad=>
  injection hk with hk
  subst hk;exact⟨(h2.addr ad rfl).2.1,(h2.addr ad rfl).2.2⟩
def tC(B b:Nat)(g:Option Nat)(l:List P3)(w w':World):Prop:=∃g',Mm w' B b g' l∧Fr (fun k=>k=b∨some k=g) w w'∧(g'=g∨∃k,g'=some k∧w.heap.size≤k)
theorem Pp(W:World)(x y z:Int):oD (W.alloc (.cells #[Aa Ab x,Aa Ab y,Aa Ab z] 46)) (some ⟨W.heap.size,0,none⟩) 1 [(x,y,z)]:=by
 refine⟨rfl,fun j u hu=>⟨_,_,rfl,?_⟩⟩;rw [Nat.zero_add,(Bh.new W _ _).cell j];simpa [pc] using hu
theorem wG(B b:Nat)(g:Option Nat)(x y z:Int)(l:List P3)(w:World)(h:Mm w B b g l)(hxy:x<y)(hlen:l.length≤1073741824)(hB:B≤w.heap.size)(hbB:b<B):
  Calls Ad 44 #[Aa Ab x,Aa Ab y,Aa Ab z,Adm b] w fun e w'=>e= .returned (.tuple #[])∧tC B b g (l++ [(x,y,z)]) w w':=by
 obtain⟨A,n,c,s,p,rfl⟩:=h;rw [p.1] at hlen;have K:w.cell? ⟨b,0,none⟩=some (.slice A n c):=s.cell 0;have E:=Hd (p.pure ((Af _ _).alloc (Ae _) (.cells #[Aa Ab x,Aa Ab y,Aa Ab z] 46)));have C:=Hd (s.alloc (.cells #[Aa Ab x,Aa Ab y,Aa Ab z] 46));have m:∀ad,A=some ad→ad.block≠b:=fun ad had=>by have:=(p.addr ad had).2.1;omega
 have D:=Hd m;have J:=Hd (p.addr);have I:=s.lt;clear s p m;go_enter func44,ntmps44;go_wp2_with (at_builtin;refine Dh _ rfl (.tmp 10) (.tmp 15) _ rfl 46 _ 3 24 underlying42 qA rfl (by omega) Gv eQ _ _ _ _ _ rfl E.o _ _ _ _ rfl (Pp w x y z) (by omega) (by simp;omega) ?_;intro q v w1 d a j;have r:=C.o.fr a (by rintro⟨ad,h,H⟩;exact D.o ad h H.symm);have L:w1.cell? ⟨b,0,none⟩=some (.slice A n c):=r.cell 0;have M:=r.frozen 0;have t:=Hd r;have i:=Hd d;have u:=Hd a;clear r d a);go_end0;have f:Fr (fun k=>k=b) w1 (w1.setCell ⟨b,0,none⟩ (.slice q (n+1) v)):=Fr.setCell (S:=fun k=>k=b) (Fr.refl _ _) (fun _=>rfl) _;refine⟨rfl,q.map (·.block),⟨q,n+1,v,by simpa using t.o.set_ 0 (.slice q (n+1) v),i.o.fr f ?_,rfl⟩,?_,?_⟩
 ·intro ad had e;have:=(i.o.addr ad had).2.1;omega
 ·have F:Fr (fun k=>k=b∨some k=A.map (·.block)) w (w.alloc (.cells #[Aa Ab x,Aa Ab y,Aa Ab z] 46)):=(Fr.refl _ _).alloc _;have G:Fr (fun k=>k=b∨some k=A.map (·.block)) (w.alloc (.cells #[Aa Ab x,Aa Ab y,Aa Ab z] 46)) w1:=u.o.mono (by
   rintro k N ⟨ad,h1,rfl⟩;exact .inr (by rw [h1];rfl))
  exact(F.trans G fun _ _ h=>h).trans f (fun k _ h=> .inl h)
 ·rcases j with h|h
  ·exact .inl h
  ·exact .inr ⟨_,h,by simp⟩
theorem zV(B b:Nat)(g:Option Nat)(x y z:Int)(l:List P3)(w:World)(h:Mm w B b g l)(hxy:¬x<y):
  Calls Ad 44 #[Aa Ab x,Aa Ab y,Aa Ab z,Adm b] w fun e w'=>e= .returned (.tuple #[])∧tC B b g l w w':=by
 have H:=Hd h;clear h;go_enter func44,ntmps44;go_wp2;go_end0;exact⟨rfl,g,H.o,Fr.refl _ _,.inl rfl⟩
structure Iy where
 B0:Nat
 B2:Nat
 bw:Nat
 bm:Nat
 bl:Nat
 A:Option Addr
 n:Nat
 c:Nat
 l:List UInt8
structure Iy.Ok(E:Iy):Prop where
 hA:∀ad,E.A=some ad→ad.block<E.B0
 l0:E.B0≤E.bl
 l2:E.bl<E.B2
 m0:E.B0≤E.bm
 m2:E.bm<E.B2
 w0:E.B0≤E.bw
 w2:E.bw<E.B2
 lm:E.bl≠E.bm
 lw:E.bl≠E.bw
 mw:E.bm≠E.bw
 hc:E.n≤E.c
 hn:E.n≤4294967296
def Iy.cells(E:Iy)(left:Int):Array Value:=#[.slice E.A E.n E.c,Aa Ab left,.map (some E.bm),.func (.func 44) #[] #[Adm E.bl]]
structure E6(E:Iy)(g:Option Nat)(s:Bk)(w:World):Prop where
 ok:E.Ok
 b:Ca w E.A E.n E.l
 W:Bh w E.bw 77 (E.cells s.left)
 M:Js w E.bm s.had
 O:Mm w E.B2 E.bl g s.o
 sz:E.B2≤w.heap.size
def Iy.Free(E:Iy)(g:Option Nat)(k:Nat):Prop:=k≠E.bl∧k≠E.bm∧k≠E.bw∧g≠some k
structure Ed(E:Iy)(g g':Option Nat)(w w':World):Prop where
 fr:Fr (fun k=>¬E.Free g k) w w'
 keep:∀k,k<w.heap.size→E.Free g k→E.Free g' k
section
variable {E:Iy} {s:Bk} {g g' g'':Option Nat} {w w' w'':World}
theorem Ed.refl(E:Iy)(g:Option Nat)(w:World):Ed E g g w w:=⟨Fr.refl _ _,fun _ _ h=>h⟩
theorem Ed.of_below(hb:Below w.heap.size w w'):Ed E g g w w':=⟨Fr.of_below hb _,fun _ _ h=>h⟩
theorem Ed.trans(h:Ed E g g' w w')(h':Ed E g' g'' w' w''):Ed E g g'' w w'':=
 ⟨h.fr.trans h'.fr (fun k hk hn hf=>hn (h.keep k hk hf)),fun k hk hf=>h'.keep k (Nat.lt_of_lt_of_le hk h.fr.size) (h.keep k hk hf)⟩
theorem Ed.below(h:Ed E g g' w w')(hb:Below w'.heap.size w' w''):Ed E g g' w w'':=h.trans (Ed.of_below hb)
theorem Ed.drew(h:Ed E g g' w w'):Ed E g g' w w'.drew:=h.below ((Af _ _).drew)
theorem Ed.alloc(h:Ed E g g' w w')(o:Obj):Ed E g g' w (w'.alloc o):=h.below ((Af _ _).alloc (Ae _) o)
def Iz(E:Iy)(g:Option Nat)(w:World)(k:Nat)(t:TypeId)(cs:Array Value):Prop:=Bh w k t cs∧E.Free g k
theorem Iz.to{t:TypeId}(h:Iz E g w k t cs)(ht:Ed E g g' w w'):Iz E g' w' k t cs:=⟨h.1.fr ht.fr (fun hn=>hn h.2),ht.keep k h.1.lt h.2⟩
theorem Iz.pure{t:TypeId}(h:Iz E g w k t cs)(hb:Below w.heap.size w w'):Iz E g w' k t cs:=⟨h.1.pure hb,h.2⟩
theorem Iz.drew{t:TypeId}(h:Iz E g w k t cs):Iz E g w.drew k t cs:=h
theorem E6.pure(h:E6 E g s w)(hb:Below w.heap.size w w'):E6 E g s w':=⟨h.ok,h.b.pure hb,h.W.pure hb,h.M.pure hb,h.O.pure hb,Nat.le_trans h.sz hb.size⟩
theorem E6.drew(h:E6 E g s w):E6 E g s w.drew:=h.pure ((Af _ _).drew)
theorem E6.alloc(h:E6 E g s w)(o:Obj):E6 E g s (w.alloc o):=h.pure ((Af _ _).alloc (Ae _) o)
theorem E6.len(h:E6 E g s w):E.l.length=E.n:=h.b.1
theorem E6.new(h:E6 E g s w):E.Free g w.heap.size:=by
 have:=h.sz;have:=h.ok.l2;have:=h.ok.m2;have:=h.ok.w2;refine⟨by omega,by omega,by omega,fun e=>?_⟩;have:=(h.O.row _ e).2;omega
theorem E6.lone(h:E6 E g s w)(t:TypeId)(cs:Array Value):Iz E g (w.alloc (.cells cs t)) w.heap.size t cs:=⟨Bh.new w t cs,h.new⟩
theorem E6.low(h:E6 E g s w)(hk:k<E.B0):E.Free g k:=by
 have:=h.ok.l0;have:=h.ok.l2;have:=h.ok.m0;have:=h.ok.w0;refine⟨by omega,by omega,by omega,fun e=>?_⟩;have:=(h.O.row _ e).1;omega
theorem Ed.belowB(h:Ed E g g' w w')(hw:E6 E g s w):Below E.B0 w w':=by
 refine h.fr.belowB (fun k hk hn=>hn (hw.low hk)) ?_;have:=hw.sz;have:=hw.ok.l0;have:=hw.ok.l2;omega
theorem E6.cells(h:E6 E g s w):w.cell? ⟨E.bw,0,none⟩=some (.slice E.A E.n E.c)∧w.cell? ⟨E.bw,1,none⟩=some (Aa Ab s.left)∧w.cell? ⟨E.bw,2,none⟩=some (.map (some E.bm))∧
  w.cell? ⟨E.bw,3,none⟩=some (.func (.func 44) #[] #[Adm E.bl]):=⟨h.W.cell 0,h.W.cell 1,h.W.cell 2,h.W.cell 3⟩
theorem kK{l':List P3}(h:E6 E g s w)(ht:tC E.B2 E.bl g l' w w'):∃g',E6 E g' { s with o:=l'} w'∧Ed E g g' w w':=by
 have a:=h.ok;obtain⟨g',m,d,n⟩:=ht;have row:=h.O.row;have i:∀k,k<E.B2→k≠E.bl→¬(k=E.bl∨some k=g):=by
  rintro k h1 h2 (h3|h3)
  ·exact h2 h3
  ·have:=(row k h3.symm).1;omega
 refine⟨g',⟨a,h.b.fr d ?_,h.W.fr d (i _ a.w2 (Ne.symm a.lw)),h.M.fr d (i _ a.m2 (Ne.symm a.lm)),m,Nat.le_trans h.sz d.size⟩,d.mono ?_,?_⟩
 ·intro l f;have:=a.hA l f;have:=a.l0;have:=a.l2;exact i _ (by omega) (by omega)
 ·rintro k _ (rfl|e) c
  ·exact c.1 rfl
  ·exact c.2.2.2 e.symm
 ·intro k p c;refine⟨c.1,c.2.1,c.2.2.1,?_⟩;rcases n with rfl|⟨j,rfl,q⟩
  ·exact c.2.2.2
  ·intro e;injection e with e
   omega
theorem G6(a b c:Int)(h:E6 E g s w)(hs:s.o.length≤1073741824):
  Calls Ad 44 #[Aa Ab a,Aa Ab b,Aa Ab c,Adm E.bl] w fun e w'=>e= .returned (.tuple #[])∧∃g',E6 E g' (s.tell a b c) w'∧Ed E g g' w w':=by
 have f:E.B2≤w.heap.size:=h.sz;by_cases d:a<b
 ·refine(wG E.B2 E.bl g a b c s.o w h.O d hs h.sz h.ok.l2).mono ?_;rintro e w' ⟨rfl,ht⟩;have e:s.tell a b c={ s with o:=s.o++ [(a,b,c)]}:=if_pos d;rw [e];exact⟨rfl,kK h ht⟩
 ·refine(zV E.B2 E.bl g a b c s.o w h.O d).mono ?_;rintro e w' ⟨rfl,ht⟩;have e:s.tell a b c=s:=if_neg d;rw [e];exact⟨rfl,kK h ht⟩
end
def Vy(E:Iy)(g:Option Nat)(w:World)(y:Bk×Int)(e:Ending)(w':World):Prop:=e= .returned (Aa Ab y.2)∧∃g',E6 E g' y.1 w'∧Ed E g g' w w'
theorem Bi{p:Addr}{u:Value}(h:w.cell? p=some u):w.drew.cell? p=some u:=h
theorem aQ(A:Option Addr)(n c:Nat)(p q t v a m er:Int)(l:List UInt8)(w:World)(h:Ca w A n l)(hc:n≤c)(hn:n≤1099511627776)(h0:D1 l p q t v [4,5,25]=a)(h1:((Dx l p q t v [4,5,25]).length:Int)=m)(h2:C6 l p q t v [4,5,25]=er):
  Calls Ad 150 #[.slice A n c,.agg (Adl p q t v)] w (Adh (.tuple #[Aa Ab a,Aa Ab m,Aa Ab er]) w):=by
 subst h0 h1 h2;exact mZ A n c p q t v l w h hc hn
theorem Od(s:Bk)(a b c:Int):(s.tell a b c).o.length≤s.o.length+1:=by
 unfold Bk.tell;by_cases h:a<b
 ·rw [if_pos h];simp
 ·rw [if_neg h];omega
theorem My(h:C6 l p q t v [4,5,25]=0):0≤D1 l p q t v [4,5,25]∧D1 l p q t v [4,5,25]+(Dx l p q t v [4,5,25]).length≤l.length∧0≤v∧v≤8∧Cb l.length p q t v=0:=by
 have b:Cb l.length p q t v=0:=by
  by_cases g:Cb l.length p q t v=0
  ·exact g
  ·unfold C6 at h;rw [if_pos g] at h;exact absurd h g
 obtain⟨a,h1,_,h3⟩:=uD h;have c:=Bz.1 (Cz.1 (Dr.1 b).1).2.2;refine⟨by omega,by omega,by omega,by omega,b⟩
theorem O9(E:Iy)(g:Option Nat)(s:Bk)(p q t v:Int)(w:World)(h:E6 E g s w)(hs:s.o.length≤1000000000):
  Calls Ad 80 #[Adm E.bw,.agg (Adl p q t v)] w (Vy E g w (Cx E.l ⟨p,q,t,v⟩ s)):=by
 have j:=Hd (h.alloc (.cells (Adl p q t v) 70));have d:=Hd (h.lone 70 (Adl p q t v));have k:=Hd ((Ed.refl E g w).alloc (.cells (Adl p q t v) 70));obtain⟨a,S⟩:∃a,D1 E.l p q t v [4,5,25]=a:=⟨_,rfl⟩;obtain⟨m,T⟩:∃m:Int,((Dx E.l p q t v [4,5,25]).length:Int)=m:=⟨_,rfl⟩;obtain⟨L,J⟩:∃a,C6 E.l p q t v [4,5,25]=a:=⟨_,rfl⟩;have F:=Hd S;have D:=Hd T;have C:=Hd J;have P:=h.ok.hc;have Z:=h.ok.hn;have K:=h.len;clear h S T J;obtain⟨r,G,H,u⟩:=j.o.cells;have x:=Be d.o.1;have y:=Bc d.o.1;have z:=Bb d.o.1;have B:=Bf d.o.1;go_enter func80,ntmps80;go_wp2_with fail;go_region_held3 (fun w'=>w'.cell? ⟨E.bw,0,none⟩=some (.slice E.A E.n E.c)∧w'.cell? ⟨E.bw,3,none⟩=some (.func (.func 44) #[] #[Adm E.bl])∧(w'.cell? ⟨w.heap.size,0,none⟩=some (Aa Ab p)∧w'.cell? ⟨w.heap.size,1,none⟩=some (Aa Ab q)∧w'.cell? ⟨w.heap.size,2,none⟩=some (Aa Ab t)∧w'.cell? ⟨w.heap.size,3,none⟩=some (Aa Ab v))) (first|with_reducible exact⟨r,u,x,y,z,B⟩|with_reducible exact⟨Bi r,Bi u,Bi x,Bi y,Bi z,Bi B⟩) (first|(go_at_call 150;(with_reducible refine(aQ E.A E.n E.c p q t v a m L E.l _ j.o.drew.b P (by omega) F.o D.o C.o).mono ?_);rintro e w1 ⟨rfl,I⟩;replace k:=Hd (k.o.drew.below I);replace j:=Hd (j.o.drew.pure I);replace d:=Hd (d.o.drew.pure I);clear r G H u x y z B;clear I;obtain⟨r,G,H,u⟩:=j.o.cells;have x:=Be d.o.1;have y:=Bc d.o.1;have z:=Bb d.o.1;have B:=Bf d.o.1));by_cases J:L=0
 ·subst J;obtain⟨V,R,b2,b3,_⟩:=My C.o;rw [F.o] at V R;have W:0≤m:=by have:=D.o;omega
  have X:a+m≤4294967296:=by have:=D.o;omega
  clear R K;by_cases N:t=4
  ·subst N;go_wp2_with (go_at_call 44;(with_reducible refine(G6 a (a+m+1) 9 j.o (by omega)).mono ?_);rintro e Q ⟨rfl,M,i,f⟩;replace k:=Hd (k.o.trans f);replace d:=Hd (d.o.to f);replace j:=Hd i;clear r G H u x y z B;clear i f;obtain⟨r,G,H,u⟩:=j.o.cells;have x:=Be d.o.1;have y:=Bc d.o.1;have z:=Bb d.o.1;have B:=Bf d.o.1);go_ret;have e:Cx E.l ⟨p,q,4,v⟩ s=(s.tell a (a+m+1) 9,0):=by
    unfold Cx;rw [C.o,F.o,D.o];rfl
   rw [e];exact⟨rfl,_,j.o,k.o⟩
  ·have e4:(t==4)=false:=beq_eq_false_iff_ne.mpr N;have s1:=Od s (a-v) a 6;have hw:IntKind.i64.wrap (a-v)=a-v:=Ag _ (by omega);go_wp2_with fail;go_region_held3 (fun w'=>w'.cell? ⟨E.bw,0,none⟩=some (.slice E.A E.n E.c)∧w'.cell? ⟨E.bw,3,none⟩=some (.func (.func 44) #[] #[Adm E.bl])∧(w'.cell? ⟨w.heap.size,0,none⟩=some (Aa Ab p)∧w'.cell? ⟨w.heap.size,1,none⟩=some (Aa Ab q)∧w'.cell? ⟨w.heap.size,2,none⟩=some (Aa Ab t)∧w'.cell? ⟨w.heap.size,3,none⟩=some (Aa Ab v))) (first|with_reducible exact⟨r,u,x,y,z,B⟩|with_reducible exact⟨Bi r,Bi u,Bi x,Bi y,Bi z,Bi B⟩) (first|(go_at_call 44;(with_reducible refine(G6 (a-v) a 6 j.o.drew (by omega)).mono ?_);rintro e Q ⟨rfl,M,i,f⟩;replace k:=Hd (k.o.drew.trans f);replace d:=Hd (d.o.drew.to f);replace j:=Hd i;clear r G H u x y z B;clear i f;obtain⟨r,G,H,u⟩:=j.o.cells;have x:=Be d.o.1;have y:=Bc d.o.1;have z:=Bb d.o.1;have B:=Bf d.o.1));by_cases O:t=5
   ·subst O;go_wp2_with (go_at_call 44;(with_reducible refine(G6 a (a+m+1) 10 j.o (by omega)).mono ?_);rintro e Q ⟨rfl,M,i,f⟩;replace k:=Hd (k.o.trans f);replace d:=Hd (d.o.to f);replace j:=Hd i;clear r G H u x y z B;clear i f;obtain⟨r,G,H,u⟩:=j.o.cells;have x:=Be d.o.1;have y:=Bc d.o.1;have z:=Bb d.o.1;have B:=Bf d.o.1);go_ret;have e:Cx E.l ⟨p,q,5,v⟩ s=((s.tell (a-v) a 6).tell a (a+m+1) 10,0):=by
     unfold Cx;rw [C.o,F.o,D.o];rfl
    rw [e];exact⟨rfl,_,j.o,k.o⟩
   ·have e5:(t==5)=false:=beq_eq_false_iff_ne.mpr O;go_wp2_with (go_at_call 44;(with_reducible refine(G6 a (a+m) 11 j.o (by omega)).mono ?_);rintro e Q ⟨rfl,M,i,f⟩;replace k:=Hd (k.o.trans f);replace d:=Hd (d.o.to f);replace j:=Hd i;clear r G H u x y z B;clear i f;obtain⟨r,G,H,u⟩:=j.o.cells;have x:=Be d.o.1;have y:=Bc d.o.1;have z:=Bb d.o.1;have B:=Bf d.o.1);go_ret;have e:Cx E.l ⟨p,q,t,v⟩ s=((s.tell (a-v) a 6).tell a (a+m) 11,0):=by
     unfold Cx;rw [C.o,F.o,D.o];simp [N,O]
    rw [e];exact⟨rfl,_,j.o,k.o⟩
 ·have Y:(L != 0)=true:=by simpa using J
  have e:Cx E.l ⟨p,q,t,v⟩ s=(s,L):=by
   unfold Cx;rw [C.o,if_pos J]
  have U:=Hd e;clear e J;go_wp2_with fail;go_ret;rw [U.o];exact⟨rfl,_,j.o,k.o⟩
theorem nA(h:F7 l p q t v=0):0≤F6 l p q t v∧F6 l p q t v≤l.length∧0≤G3 l p q t v∧G3 l p q t v≤8:=by
 unfold F6 G3;rw [if_pos h,if_pos h];rcases Ox l p q t v with⟨b,e⟩|⟨b,_⟩
 ·rw [e] at h;exact absurd h b
 obtain⟨h1,h2⟩:=Dr.1 b;have h2:=Eh.1 h2;have c:=Bz.1 (Cz.1 h1).2.1;have d:=Bz.1 (Cz.1 h1).2.2;by_cases a:Bs t=true
 ·rw [if_pos a,if_pos a];omega
 ·rw [if_neg a,if_neg a];have ht:0≤By l p q t v∧By l p q t v≤l.length:=by
   by_cases g:B7 l p q t v=0
   ·exact Mk g
   ·unfold By;rw [if_neg g];omega
  omega
theorem Sb(E:Iy)(g:Option Nat)(s:Bk)(p q t v:Int)(w:World)(h:E6 E g s w)(hs:s.o.length≤1000000000):
  Calls Ad 81 #[Adm E.bw,.agg (Adl p q t v)] w (Vy E g w (C8 E.l ⟨p,q,t,v⟩ s)):=by
 have i:=Hd (h.alloc (.cells (Adl p q t v) 70));have d:=Hd (h.lone 70 (Adl p q t v));have u:=Hd ((Ed.refl E g w).alloc (.cells (Adl p q t v) 70));obtain⟨a,N⟩:∃a,F6 E.l p q t v=a:=⟨_,rfl⟩;obtain⟨m,P⟩:∃m,G3 E.l p q t v=m:=⟨_,rfl⟩;obtain⟨K,H⟩:∃a,F7 E.l p q t v=a:=⟨_,rfl⟩;have r:=Hd N;have x:=Hd P;have j:=Hd H;have M:=h.ok.hc;have X:=h.ok.hn;have O:=h.len;clear h N P H;obtain⟨z,I,J,B⟩:=i.o.cells;have C:=Be d.o.1;have D:=Bc d.o.1;have F:=Bb d.o.1;have G:=Bf d.o.1;go_enter func81,ntmps81;go_wp2_with fail;go_region_held3 (fun w'=>w'.cell? ⟨E.bw,0,none⟩=some (.slice E.A E.n E.c)∧w'.cell? ⟨E.bw,3,none⟩=some (.func (.func 44) #[] #[Adm E.bl])∧(w'.cell? ⟨w.heap.size,0,none⟩=some (Aa Ab p)∧w'.cell? ⟨w.heap.size,1,none⟩=some (Aa Ab q)∧w'.cell? ⟨w.heap.size,2,none⟩=some (Aa Ab t)∧w'.cell? ⟨w.heap.size,3,none⟩=some (Aa Ab v))) (first|with_reducible exact⟨z,B,C,D,F,G⟩|with_reducible exact⟨Bi z,Bi B,Bi C,Bi D,Bi F,Bi G⟩) (first|(go_at_call 151;(with_reducible refine(Abc E.A E.n E.c p q t v E.l a m K _ i.o.drew.b M (by omega) r.o x.o j.o).mono ?_);rintro e w1 ⟨rfl,y⟩;replace u:=Hd (u.o.drew.below y);replace i:=Hd (i.o.drew.pure y);replace d:=Hd (d.o.drew.pure y);clear z I J B C D F G;clear y;obtain⟨z,I,J,B⟩:=i.o.cells;have C:=Be d.o.1;have D:=Bc d.o.1;have F:=Bb d.o.1;have G:=Bf d.o.1));by_cases H:K=0
 ·subst H;obtain⟨R,S,T,U⟩:=nA j.o;rw [r.o] at R S;rw [x.o] at T U;by_cases L:t=6
  ·subst L;go_wp2_with (go_at_call 44;(with_reducible refine(G6 a (a+m) 12 i.o (by omega)).mono ?_);rintro e Y ⟨rfl,V,k,f⟩;replace u:=Hd (u.o.trans f);replace d:=Hd (d.o.to f);replace i:=Hd k;clear z I J B C D F G;clear k f;obtain⟨z,I,J,B⟩:=i.o.cells;have C:=Be d.o.1;have D:=Bc d.o.1;have F:=Bb d.o.1;have G:=Bf d.o.1);go_ret;have e:C8 E.l ⟨p,q,6,v⟩ s=(s.tell a (a+m) 12,0):=by
    unfold C8;rw [j.o,r.o,x.o];rfl
   rw [e];exact⟨rfl,_,i.o,u.o⟩
  ·have Z:(t==6)=false:=beq_eq_false_iff_ne.mpr L;go_wp2_with (go_at_call 44;(with_reducible refine(G6 a (a+m) 13 i.o (by omega)).mono ?_);rintro e Y ⟨rfl,V,k,f⟩;replace u:=Hd (u.o.trans f);replace d:=Hd (d.o.to f);replace i:=Hd k;clear z I J B C D F G;clear k f;obtain⟨z,I,J,B⟩:=i.o.cells;have C:=Be d.o.1;have D:=Bc d.o.1;have F:=Bb d.o.1;have G:=Bf d.o.1);go_ret;have e:C8 E.l ⟨p,q,t,v⟩ s=(s.tell a (a+m) 13,0):=by
    unfold C8;rw [j.o,r.o,x.o];simp [L]
   rw [e];exact⟨rfl,_,i.o,u.o⟩
 ·have W:(K==0)=false:=beq_eq_false_iff_ne.mpr H;have e:C8 E.l ⟨p,q,t,v⟩ s=(s,K):=by
   unfold C8;rw [j.o,if_neg H]
  have Q:=Hd e;clear e H;go_wp2_with fail
  all_goals
   go_ret;rw [Q.o];exact⟨rfl,_,i.o,u.o⟩
def Bk.size(s:Bk):Nat:=s.o.length+8*s.left.toNat
theorem Ef(s:Bk)(a b c:Int):(s.tell a b c).left=s.left:=by unfold Bk.tell;split <;>rfl
theorem Ga(s:Bk)(a b c:Int):(s.tell a b c).had=s.had:=by unfold Bk.tell;split <;>rfl
theorem O4(s:Bk)(a b c:Int):(s.tell a b c).size≤s.size+1:=by
 unfold Bk.size;rw [Ef];have:=Od s a b c;omega
def Ew(k:Nat)(s s':Bk):Prop:=s'.left≤s.left∧s'.size≤s.size+k
theorem Ew.refl(s:Bk):Ew 0 s s:=⟨Int.le_refl _,Ae _⟩
theorem Ew.mono{s s':Bk}(h:Ew k s s')(hk:k≤j):Ew j s s':=⟨h.1,by have:=h.2;omega⟩
theorem Ew.trans{s s' s'':Bk}(h:Ew k s s')(h':Ew j s' s''):Ew (k+j) s s'':=⟨Int.le_trans h'.1 h.1,by have:=h.2;have:=h'.2;omega⟩
theorem Hb(s:Bk)(a b c:Int):Ew 1 s (s.tell a b c):=⟨by rw [Ef];exact Int.le_refl _,O4 s a b c⟩
def P9(go:Rq→Bk→Bk×Int):Prop:=∀r s,Ew 0 s (go r s).1∧((go r s).2=0→(go r s).1.size+4≤s.size)
section
variable {l:List UInt8} {go:Rq→Bk→Bk×Int} (r:Rq)
theorem sM(s:Bk):Ew 2 s (Cx l r s).1:=by
 unfold Cx;split
 ·exact(Ew.refl s).mono (by omega)
 ·split
  ·exact(Hb _ _ _ _).mono (by omega)
  ·split
   ·exact(Hb _ _ _ _).trans (Hb _ _ _ _)
   ·exact(Hb _ _ _ _).trans (Hb _ _ _ _)
theorem lA(s:Bk):Ew 2 s (C8 l r s).1:=by
 unfold C8;split
 ·exact(Hb _ _ _ _).mono (by omega)
 ·exact(Ew.refl s).mono (by omega)
theorem qH(hgo:P9 go)(s:Bk):Ew 0 s (G9 l go r s).1:=by
 unfold G9;split
 ·exact Ew.refl s
 ·split
  ·exact(hgo _ _).1
  ·rename_i h;have h:=(hgo (Ck l r) s).2 (Decidable.of_not_not h);have h1:=(hgo (Ck l r) s).1;have h2:=Hb (go (Ck l r) s).1 (lsFrom l r.p r.q r.t r.v+r.v) (lsFrom l r.p r.q r.t r.v+2*r.v) 7;exact⟨Int.le_trans h2.1 h1.1,by have:=h2.2;simp only at this ⊢;omega⟩
theorem Ri(i:Nat)(s:Bk):Ew 1 s (Fk l r i s):=by
 unfold Fk;split
 ·exact Hb _ _ _ _
 ·exact(Ew.refl s).mono (by omega)
theorem U7(s:Bk):Ew 1 s (Jk l r s):=by
 unfold Jk;split
 ·exact Hb _ _ _ _
 ·exact(Ew.refl s).mono (by omega)
theorem Wj(hgo:P9 go):∀(k i:Nat) (s:Bk),Ew 1 s (E0 l go r k i s).1
 |0,i,s=>(Ew.refl s).mono (by omega)
 |k+1,i,s=>by
  unfold E0;split
  ·exact Ri r i s
  ·have ht:=Ri (l:=l) r i s;have a:=hgo (Cq l r i) (Fk l r i s);split
   ·exact ht.trans a.1
   ·rename_i h;have h:=a.2 (Decidable.of_not_not h);have b:=Wj hgo k (i+1) (go (Cq l r i) (Fk l r i s)).1;exact⟨Int.le_trans b.1 (Int.le_trans a.1.1 ht.1),by have:=b.2;have:=ht.2;omega⟩
theorem Oo(hgo:P9 go)(s:Bk):Ew 0 s (Gt l go r s).1:=by
 unfold Gt;split
 ·exact qH r hgo s
 ·exact Ew.refl s
theorem qT(hgo:P9 go)(s:Bk):Ew 2 s (Dw l go r s).1:=by
 unfold Dw;split
 ·exact(Ew.refl s).mono (by omega)
 ·split
  ·exact(Oo r hgo s).mono (by omega)
  ·exact((Oo r hgo s).trans (U7 r _)).trans (Wj r hgo _ _ _)
theorem pK(hgo:P9 go)(s:Bk):Ew 2 s (Dv l go r s).1:=by
 unfold Dv;split
 ·exact sM r s
 ·split
  ·exact lA r s
  ·exact qT r hgo s
end
theorem nL(r:Rq)(s:Bk)(h:¬s.left<1):(D0 r s).left≤s.left∧(D0 r s).size+7≤s.size:=by
 unfold D0;have h1:=O4 s.burn r.p (r.p+r.q) (Fz r.t);rw [Ef];have e:s.burn.size+8=s.size:=by unfold Bk.size Bk.burn;simp only;omega
 exact⟨by unfold Bk.burn;simp only;omega,by omega⟩
theorem Ol(l:List UInt8):∀d,P9 (Cj l d)
 |0,r,s=>⟨Ew.refl s,fun h=>by cases h⟩
 |d+1,r,s=>by
  unfold Cj;split
  ·exact⟨Ew.refl s,fun h=>by cases h⟩
  ·rename_i hl;obtain⟨h1,h2⟩:=nL r s hl;split
   ·exact⟨⟨h1,by simp only;omega⟩,fun _=>by simp only;omega⟩
   ·split
    ·exact⟨⟨h1,by simp only;omega⟩,fun _=>by simp only;omega⟩
    ·have a:=pK (l:=l) r (Ol l d) ((D0 r s).see (Hw l r));have b:((D0 r s).see (Hw l r)).left=(D0 r s).left:=rfl;have c:((D0 r s).see (Hw l r)).size=(D0 r s).size:=rfl;rw [Ew,b,c] at a;exact⟨⟨Int.le_trans a.1 h1,by have:=a.2;omega⟩,fun _=>by have:=a.2;omega⟩
def Lh(n:Nat)(r:Rq):Prop:=0≤r.p∧1≤r.q∧r.q≤8∧r.p+r.q≤n
theorem Xf{n:Nat}(h:Cb n p q t v=0):Lh n ⟨p,q,t,v⟩∧1≤v∧v≤8:=by
 obtain⟨h1,h2⟩:=Dr.1 h;have h2:=Eh.1 h2;have hq:=Bz.1 (Cz.1 h1).2.1;have hv:=Bz.1 (Cz.1 h1).2.2;refine⟨⟨h2.1,?_,?_,h2.2.2⟩,?_,?_⟩ <;>(first|omega|(simp only;omega))
theorem qY(h:Cm l p q t v=0):Cb l.length p q t v=0:=by
 rcases N0 l p q t v with⟨g,e⟩|⟨g,_⟩
 ·rw [e] at h;exact absurd h g
 ·exact g
theorem yI(h:Cm l p q t v=0):lsFrom l p q t v+aheadT t*v.toNat=lsAt l p q t v:=by
 unfold lsFrom lsAt;rw [if_pos h,if_pos h];rcases N0 l p q t v with⟨_,e⟩|⟨_,⟨_,e⟩|⟨_,⟨_,e⟩|⟨_,⟨_,e⟩|⟨_,_,e⟩|⟨_,_,_,e⟩|⟨_,a,_,_⟩⟩⟩⟩
 ·rw [e] at h;exact absurd h (by assumption)
 ·rw [e] at h;cases h
 ·rw [e] at h;exact absurd h (by assumption)
 ·rw [e] at h;cases h
 ·rw [e] at h;cases h
 ·rw [e] at h;cases h
 ·omega
theorem Kl(h:Cm l p q t v=0):1≤v∧v≤8∧lsFrom l p q t v+aheadT t*v.toNat=lsAt l p q t v∧lsAt l p q t v+lsLen l p q t v*(v.toNat+tgs t)≤l.length:=
 ⟨(Xf (qY h)).2.1,(Xf (qY h)).2.2,yI h,(Tn h).2.2.2.1⟩
theorem mF(h:Hf l p q t v=0):t=9∧Cm l p q t v=0∧Lh l.length (Ck l ⟨p,q,t,v⟩)∧(lsFrom l p q t v:Int)+3*v≤l.length∧1≤v∧v≤8:=by
 rcases U6 l p q t v with⟨g,e⟩|⟨_,⟨_,e⟩|⟨ht,⟨g,e⟩|⟨a,_⟩⟩⟩
 ·rw [e] at h;exact absurd h g
 ·rw [e] at h;cases h
 ·rw [e] at h;exact absurd h g
 obtain⟨h1,h2,h3,d⟩:=Kl a;have c:aheadT t=3:=by rw [ht];rfl
 rw [c] at h3;have b:(lsFrom l p q t v:Int)+3*v≤l.length:=by omega
 refine⟨ht,a,?_,b,h1,h2⟩;unfold Lh Ck Sp Sq;simp only [if_pos h];omega
theorem E6.newer{E:Iy}{s:Bk}(h:E6 E g s w)(hk:w.heap.size≤k):E.Free g k:=by
 have:=h.sz;have:=h.ok.l2;have:=h.ok.m2;have:=h.ok.w2;refine⟨by omega,by omega,by omega,fun e=>?_⟩;have:=(h.O.row _ e).2;omega
def Yb(E:Iy)(go:Rq→Bk→Bk×Int)(d:Nat):Prop:=∀(g:Option Nat) (s:Bk) (p q t v:Int) (w:World),E6 E g s w→s.left.toNat<d→s.size≤900000000→Lh E.l.length ⟨p,q,t,v⟩→
 Calls Ad 45 #[Adm E.bw,.agg (Adl p q t v)] w (Vy E g w (go ⟨p,q,t,v⟩ s))
theorem Du(s:Bk):s.o.length≤s.size:=by unfold Bk.size;omega
theorem gI(E:Iy)(go:Rq→Bk→Bk×Int)(d:Nat)(hgo:Yb E go d)(hgoes:P9 go)(g:Option Nat)(s:Bk)(p q t v f:Int)(w:World)(h:E6 E g s w)(hd:s.left.toNat<d)(hs:s.size≤900000000)(hf:(lsFrom E.l p q t v:Int)=f):
  Calls Ad 154 #[Adm E.bw,.agg (Adl p q t v),Aa Ab f] w (Vy E g w (G9 E.l go ⟨p,q,t,v⟩ s)):=by
 have m:=Hd (h.alloc (.cells (Adl p q t v) 70));have j:=Hd (h.lone 70 (Adl p q t v));have F:=Hd ((Ed.refl E g w).alloc (.cells (Adl p q t v) 70));have aq:=Hd hgo;have ar:=Hd hgoes;obtain⟨z,af⟩:∃a,Sp E.l p q t v=a:=⟨_,rfl⟩;obtain⟨B,ag⟩:∃a,Sq E.l p q t v=a:=⟨_,rfl⟩;obtain⟨C,ah⟩:∃a,Ps E.l p q t v=a:=⟨_,rfl⟩;obtain⟨D,ai⟩:∃a,Sr E.l p q t v=a:=⟨_,rfl⟩;obtain⟨X,O⟩:∃a,Hf E.l p q t v=a:=⟨_,rfl⟩;have HP:=Hd af;have I:=Hd ag;have HT:=Hd ah;have HV:=Hd ai;have G:=Hd O;have HF:=Hd hf;have ad:=h.ok.hc;have bb:=h.ok.hn;have a3:=h.len;clear h af ag ah ai O hf hgo hgoes;go_enter func154,ntmps154;go_upto_region 1 with fail
 generalize w.alloc (.cells (Adl p q t v) 70)=K at m j F⊢;go_cut [7,8] (fun u7 u8 wx=>∃wy,wy=wx∧u8= Aa Ab X∧∃k,u7= Adm k∧Bh wx k 70 (Adl z B C D)∧K.heap.size≤k∧Below K.heap.size K wx)
 case first=>
  have r:=Hd (Af K.heap.size K);have HL:=Hd m.o.b;have V:=Hd m.o.W;have U:=Hd j.o.1;have a7:E.bw≠K.heap.size:=by have:=V.o.lt;omega
  have a8:w.heap.size≠K.heap.size:=by have:=U.o.lt;omega
  clear j F m;have L:_=some (Value.slice E.A E.n E.c):=V.o.cell 0;obtain ⟨Q,R,S,T⟩:=U.o.c4;go_region_held3 (fun w'=>w'.cell? ⟨E.bw,0,none⟩=some (.slice E.A E.n E.c)∧(w'.cell? ⟨w.heap.size,0,none⟩=some (Aa Ab p)∧w'.cell? ⟨w.heap.size,1,none⟩=some (Aa Ab q)∧w'.cell? ⟨w.heap.size,2,none⟩=some (Aa Ab t)∧w'.cell? ⟨w.heap.size,3,none⟩=some (Aa Ab v))) ((with_reducible refine⟨?_,?_,?_,?_,?_⟩) <;>(repeat (first|with_reducible assumption|with_reducible refine B3 ?_|with_reducible refine C4 _ ?_|with_reducible refine J1 ?_ ?_)))
   (first|(go_at_call 93;(first|(with_reducible refine(Lj E.A E.n E.c p q t v z B C D X E.l _ (HL.o.pure r.o.drew) ad (by omega) HP.o I.o HT.o HV.o G.o).mono ?_)|(with_reducible refine(Lj E.A E.n E.c p q t v z B C D X E.l _ (HL.o.pure (r.o.alloc r.o.size _).drew) ad (by omega) HP.o I.o HT.o HV.o G.o).mono ?_));rintro e Y ⟨rfl,J⟩;(first|(with_reducible replace r:=Hd (Ba r.o.drew J))|((with_reducible have H:=Hd ((Bh.new K 70 (Adl 0 0 0 0)).drew.pure J));(with_reducible replace r:=Hd (Ba (r.o.alloc r.o.size _).drew J));obtain ⟨q0,q1,q2,q3⟩:=H.o.c4;obtain ⟨p0,p1,p2⟩:=H.o.f3;have p3:=H.o.frozen 3));replace V:=Hd (V.o.pure r.o);replace U:=Hd (U.o.pure r.o);clear L Q R S T;have L:_=some (Value.slice E.A E.n E.c):=V.o.cell 0;obtain ⟨Q,R,S,T⟩:=U.o.c4;have a9:E.bw≠Y.heap.size:=(by have:=V.o.lt;omega);have ba:w.heap.size≠Y.heap.size:=(by have:=U.o.lt;omega);clear J))
  all_goals
   go_wp2_with fail;go_meet
   first
    |with_reducible exact⟨_,rfl,rfl,_,rfl,Bh.new _ _ _,r.o.size,r.o.alloc r.o.size _⟩
    |exact⟨_,rfl,rfl,_,rfl,(((H.o.set_ 0 _).set_ 1 _).set_ 2 _).set_ 3 _,Ae _,B6 _ r.o (Ae _) _ _ _ _⟩
 case rest=>
 obtain⟨Y,rfl,rfl,k,rfl,hK,hk,J⟩:=hcut;have H:=Hd (show Iz E g Y k 70 (Adl z B C D) from⟨hK,m.o.newer hk⟩);replace m:=Hd (m.o.pure J);replace j:=Hd (j.o.pure J);replace F:=Hd (F.o.below J);clear hK hk J;by_cases O:X=0
 ·subst O;obtain⟨ht,hl,aj,aw,bd,be⟩:=mF G.o;subst ht;have k0:=Be H.o.1;have k1:=Bc H.o.1;have k2:=Bb H.o.1;have k3:=Bf H.o.1;have au:=Hd (show Lh E.l.length ⟨z,B,C,D⟩ by have:=aj;unfold Ck at this;rw [HP.o,I.o,HT.o,HV.o] at this;exact this);have ae:Ck E.l ⟨p,q,9,v⟩=⟨z,B,C,D⟩:=by unfold Ck;rw [HP.o,I.o,HT.o,HV.o]
  have P:G9 E.l go ⟨p,q,9,v⟩ s=if(go ⟨z,B,C,D⟩ s).2≠0 then go ⟨z,B,C,D⟩ s else((go ⟨z,B,C,D⟩ s).1.tell (f+v) (f+2*v) 7,0):=by
   unfold G9;rw [G.o,if_neg (by decide),ae,HF.o]
  obtain⟨y,hy⟩:∃y,go ⟨z,B,C,D⟩ s=y:=⟨_,rfl⟩;rw [hy] at P;have bf:y.1.o.length≤900000000:=by
   have h1:=(ar.o ⟨z,B,C,D⟩ s).1.2;rw [hy] at h1;have:=Du y.1;omega
  have HY:=Hd hy;have u:=Hd P;have a4:0≤f:=by have:=HF.o;omega
  have a5:f≤4294967296:=by have:=HF.o;omega
  have i:=aq.o g s z B C D Y m.o hd hs au.o;rw [hy] at i;have Z:=Hd i;clear aj ae P hy i hl aw;go_wp2_with fail;go_at_call 45;refine Z.o.mono ?_;rintro e w4 ⟨rfl,g4,ab,N⟩;replace F:=Hd (F.o.trans N);replace j:=Hd (j.o.to N);replace m:=Hd ab;clear H ab N Z k0 k1 k2 k3;by_cases x:y.2=0
  ·have h1:=u.o;rw [x,if_neg (by decide)] at h1;rw [x];replace u:=Hd h1;clear h1 x;obtain⟨L,c1,c2,c3⟩:=m.o.cells;have Q:=Be j.o.1;have R:=Bc j.o.1;have S:=Bb j.o.1;have T:=Bf j.o.1;have K:IntKind.i64.wrap (f+v)=f+v:=Ag _ (by omega);have w2:IntKind.i64.wrap (2*v)=2*v:=Ag _ (by omega);have Y:IntKind.i64.wrap (f+2*v)=f+2*v:=Ag _ (by omega);go_wp2_with fail;go_region_held3 (fun w'=>w'.cell? ⟨E.bw,0,none⟩=some (.slice E.A E.n E.c)∧w'.cell? ⟨E.bw,3,none⟩=some (.func (.func 44) #[] #[Adm E.bl])∧(w'.cell? ⟨w.heap.size,0,none⟩=some (Aa Ab p)∧w'.cell? ⟨w.heap.size,1,none⟩=some (Aa Ab q)∧w'.cell? ⟨w.heap.size,2,none⟩=some (Aa Ab 9)∧w'.cell? ⟨w.heap.size,3,none⟩=some (Aa Ab v))) (first|with_reducible exact⟨L,c3,Q,R,S,T⟩|with_reducible exact⟨Bi L,Bi c3,Bi Q,Bi R,Bi S,Bi T⟩) (first|(go_at_call 44;(with_reducible refine(G6 (f+v) (f+2*v) 7 m.o.drew (by omega)).mono ?_);rintro e w2 ⟨rfl,g2,aa,M⟩;replace F:=Hd (F.o.drew.trans M);replace j:=Hd (j.o.drew.to M);replace m:=Hd aa;clear L c1 c2 c3 Q R S T;clear aa M;obtain⟨L,c1,c2,c3⟩:=m.o.cells;have Q:=Be j.o.1;have R:=Bc j.o.1;have S:=Bb j.o.1;have T:=Bf j.o.1));go_wp2_with fail;go_ret;rw [u.o];exact⟨rfl,_,m.o,F.o⟩
  ·have ax:(y.2==0)=false:=beq_eq_false_iff_ne.mpr x;have h1:=u.o;rw [if_pos x] at h1;replace u:=Hd h1;clear h1 x;go_wp2_with fail;go_ret;rw [u.o];exact⟨rfl,_,m.o,F.o⟩
 ·have ax:(X==0)=false:=beq_eq_false_iff_ne.mpr O;have e:G9 E.l go ⟨p,q,t,v⟩ s=(s,X):=by
   unfold G9;rw [G.o,if_pos O]
  have av:=Hd e;clear e O;go_wp2_with fail
  all_goals
   go_ret;rw [av.o];exact⟨rfl,_,m.o,F.o⟩
end Go.Proofs.YtejpbijeifjdeaaGreat
