/- Parts of the proof. -/
import Derived.Test.YtejpbijeifjdeaaGreatQv21
set_option maxHeartbeats 2000000
set_option maxRecDepth 100000
open Go.Value renaming int→Aa
open Go.IntKind renaming i64→Ab
open Nat renaming le_refl→Ae
open Go.RowKit.Below renaming refl→Af
open Go.IntWalk renaming i64_in→Ag
open Go.Instr renaming mapUpdate→As
open Go.Proofs.Tryz
open Go.Proofs.Tryz renaming prog→Ad
namespace Go.Proofs.YtejpbijeifjdeaaGreat
open Go.RowKit Go.Acc
variable {w w':World}{B b k j:Nat}{g:Option Nat}{cs:Array Value}{l:List UInt8}{p q t v:Int}
def T5:Array MapEntry:=#[⟨Aa Ab 0,Aa Ab 1,0⟩,⟨Aa Ab 1,Aa Ab 2,1⟩,⟨Aa Ab 2,Aa Ab 3,2⟩,⟨Aa Ab 26,Aa Ab 4,3⟩]
theorem wQ(t:Int):∃(k:Int) (b:Bool),(if b=true then k else 5)=Ej t∧∀(W:World) (g:Nat),W.heap[g]?=some (.map T5 4)→
  (Instr.lookup 184 (.map (some g)) (Aa Ab t) true).run Ad W= .ok (.tuple #[Aa Ab k,.bool b]) W:=by
 have i:∀W:World,(zeroValue 3).run Ad W= .ok (Aa Ab 0) W:=by intro W;go_simp
 have a:∀(r:Option (Nat×Value)) (W:World) (g:Nat),Instr.findNow (.int .i64) (Aa Ab t) T5.toList 0=some r→W.heap[g]?=some (.map T5 4)→(Instr.lookup 184 (.map (some g)) (Aa Ab t) true).run Ad W= .ok (.tuple #[(r.map (·.2)).getD (Aa Ab 0),.bool r.isSome]) W:=by
  intro r W g h hb;exact Nk underlying184 underlying3 (Aa Ab 0) i W T5 4 g t true r hb h
 by_cases h0:t=0
 ·subst h0;exact⟨1,true,rfl,fun W g hb=>a (some (0,Aa Ab 1)) W g rfl hb⟩
 by_cases h1:t=1
 ·subst h1;exact⟨2,true,rfl,fun W g hb=>a (some (1,Aa Ab 2)) W g rfl hb⟩
 by_cases h2:t=2
 ·subst h2;exact⟨3,true,rfl,fun W g hb=>a (some (2,Aa Ab 3)) W g rfl hb⟩
 by_cases h3:t=26
 ·subst h3;exact⟨4,true,rfl,fun W g hb=>a (some (3,Aa Ab 4)) W g rfl hb⟩
 refine⟨0,false,by simp [Ej,h0,h1,h2,h3],fun W g hb=>a none W g ?_ hb⟩;have c:(t==0)=false:=by simpa using h0
 have d:(t==1)=false:=by simpa using h1
 have e:(t==2)=false:=by simpa using h2
 have f:(t==26)=false:=by simpa using h3
 simp only [T5,Instr.findNow,Instr.sameNow,if_true,c,d,e,f]
theorem sU(t:Int)(w:World):Calls Ad 77 #[Aa Ab t] w (Ab5 (Aa Ab (Ej t)) w):=by
 have h0:=run_makeMap (P:=Ad) 184;have h1:∀(W:World) (es:Array MapEntry) (c:Nat) (x:Int) (v:Value),Instr.findNow (.int .i64) (.int .i64 x) es.toList 0=some none→(As 184 (.map (some W.heap.size)) (.int .i64 x) v).run Ad (W.alloc (.map es c))= .ok () (W.alloc (.map (es.push { key:= .int .i64 x,val:=v,born:=c}) (c+1))):=
  fun W es c x v h=>O2 underlying184 underlying3 W es c _ x v rfl h
 have f:∀W:World,(As 184 (.map (some W.heap.size)) (.int .i64 0) (.int .i64 1)).run Ad (W.alloc (.map #[] 0))= .ok () (W.alloc (.map #[⟨.int .i64 0,.int .i64 1,0⟩] 1)):=fun W=>h1 W #[] 0 0 _ rfl
 have g:∀W:World,(As 184 (.map (some W.heap.size)) (.int .i64 1) (.int .i64 2)).run Ad (W.alloc (.map #[⟨.int .i64 0,.int .i64 1,0⟩] 1))= .ok () (W.alloc (.map #[⟨.int .i64 0,.int .i64 1,0⟩,⟨.int .i64 1,.int .i64 2,1⟩] 2)):=fun W=>h1 W #[⟨.int .i64 0,.int .i64 1,0⟩] 1 1 _ rfl
 have i:∀W:World,(As 184 (.map (some W.heap.size)) (.int .i64 2) (.int .i64 3)).run Ad (W.alloc (.map #[⟨.int .i64 0,.int .i64 1,0⟩,⟨.int .i64 1,.int .i64 2,1⟩] 2))= .ok () (W.alloc (.map #[⟨.int .i64 0,.int .i64 1,0⟩,⟨.int .i64 1,.int .i64 2,1⟩,⟨.int .i64 2,.int .i64 3,2⟩] 3)):=fun W=>h1 W #[⟨.int .i64 0,.int .i64 1,0⟩,⟨.int .i64 1,.int .i64 2,1⟩] 2 2 _ rfl
 have j:∀W:World,(As 184 (.map (some W.heap.size)) (.int .i64 26) (.int .i64 4)).run Ad (W.alloc (.map #[⟨.int .i64 0,.int .i64 1,0⟩,⟨.int .i64 1,.int .i64 2,1⟩,⟨.int .i64 2,.int .i64 3,2⟩] 3))= .ok () (W.alloc (.map T5 4)):=fun W=>h1 W #[⟨.int .i64 0,.int .i64 1,0⟩,⟨.int .i64 1,.int .i64 2,1⟩,⟨.int .i64 2,.int .i64 3,2⟩] 3 26 _ rfl
 clear h1;obtain⟨k,b,a,d⟩:=wQ t;have e:=d (w.alloc (.map T5 4)) w.heap.size (heap_alloc_new w _);rw [←a];clear d a;cases b with
 |true=>
  go_enter func77,ntmps77;go_wp2;go_ret;exact⟨rfl,(Af _ _).alloc (Ae _) _⟩
 |false=>
  go_enter func77,ntmps77;go_wp2;go_ret;exact⟨rfl,(Af _ _).alloc (Ae _) _⟩
def pc(x:P3):List Value:=[Aa Ab x.1,Aa Ab x.2.1,Aa Ab x.2.2]
theorem Gt(x:P3):(pc x).length=3:=rfl
theorem bZ(x:P3):∀u∈pc x,u.oneCell'=true:=by
 intro u hu;simp [pc] at hu;rcases hu with rfl|rfl|rfl <;>rfl
abbrev J0:=Is pc
abbrev F9:=Go.Acc.Own pc 3 46
theorem nJ:(Ad.info? 46).map (fun i=>(i.zero,i.size,i.bytes))=some (some (.agg #[Aa Ab 0,Aa Ab 0,Aa Ab 0]),3,24):=by kernel_rfl
def L7(w:World)(B b:Nat)(g:Option Nat)(l:List P3):Prop:=∃A n c,Bb w b 42 #[.slice A n c]∧F9 w B A n c l∧A.map (·.block)=g
theorem L7.pure{l:List P3}(h:L7 w B b g l)(hb:Below w.heap.size w w'):L7 w' B b g l:=by
 obtain⟨A,n,c,h1,h2,h3⟩:=h;exact⟨A,n,c,h1.pure hb,h2.pure hb,h3⟩
theorem L7.fr{l:List P3}{S:Nat→Prop}(h:L7 w B b g l)(hf:Fr S w w')(h1:¬S b)(h2:∀k,g=some k→¬S k):L7 w' B b g l:=by
 obtain⟨A,n,c,b1,b2,b3⟩:=h;exact⟨A,n,c,b1.fr hf h1,b2.fr hf (fun ad had=>h2 _ (by rw [←b3,had];rfl)),b3⟩
theorem L7.row{l:List P3}(h:L7 w B b g l):∀k,g=some k→B≤k∧k<w.heap.size:=by
 obtain⟨A,n,c,_,h2,rfl⟩:=h;intro k hk;cases A with
 |none=>cases hk
 |some ad=>
  injection hk with hk
  subst hk;exact⟨(h2.addr ad rfl).2.1,(h2.addr ad rfl).2.2⟩
def qU(B b:Nat)(g:Option Nat)(l:List P3)(w w':World):Prop:=∃g',L7 w' B b g' l∧Fr (fun k=>k=b∨some k=g) w w'∧(g'=g∨∃k,g'=some k∧w.heap.size≤k)
theorem Ou(W:World)(x y z:Int):J0 (W.alloc (.cells #[Aa Ab x,Aa Ab y,Aa Ab z] 46)) (some ⟨W.heap.size,0,none⟩) 1 [(x,y,z)]:=by
 refine⟨rfl,fun j u hu=>⟨_,_,rfl,?_⟩⟩;rw [Nat.zero_add,(Bb.new W _ _).cell j];simpa [pc] using hu
theorem tU(B b:Nat)(g:Option Nat)(x y z:Int)(l:List P3)(w:World)(h:L7 w B b g l)(hxy:x<y)(hlen:l.length≤1073741824)(hB:B≤w.heap.size)(hbB:b<B):
  Calls Ad 44 #[Aa Ab x,Aa Ab y,Aa Ab z,Aca b] w fun e w'=>e= .returned (.tuple #[])∧qU B b g (l++ [(x,y,z)]) w w':=by
 obtain⟨A,n,c,s,p,rfl⟩:=h;rw [p.1] at hlen;have K:w.cell? ⟨b,0,none⟩=some (.slice A n c):=s.cell 0;have E:=Hd (p.pure ((Af _ _).alloc (Ae _) (.cells #[Aa Ab x,Aa Ab y,Aa Ab z] 46)));have C:=Hd (s.alloc (.cells #[Aa Ab x,Aa Ab y,Aa Ab z] 46));have m:∀ad,A=some ad→ad.block≠b:=fun ad had=>by have:=(p.addr ad had).2.1;omega
 have D:=Hd m;have J:=Hd (p.addr);have I:=s.lt;clear s p m;go_enter func44,ntmps44;go_wp2_with (at_builtin;refine Fl _ rfl (.tmp 10) (.tmp 15) _ rfl 46 _ 3 24 underlying42 nJ rfl (by omega) Gt bZ _ _ _ _ _ rfl E.o _ _ _ _ rfl (Ou w x y z) (by omega) (by simp;omega) ?_;intro q v w1 d a j;have r:=C.o.fr a (by rintro⟨ad,h,H⟩;exact D.o ad h H.symm);have L:w1.cell? ⟨b,0,none⟩=some (.slice A n c):=r.cell 0;have M:=r.frozen 0;have t:=Hd r;have i:=Hd d;have u:=Hd a;clear r d a);go_end0;have f:Fr (fun k=>k=b) w1 (w1.setCell ⟨b,0,none⟩ (.slice q (n+1) v)):=Fr.setCell (S:=fun k=>k=b) (Fr.refl _ _) (fun _=>rfl) _;refine⟨rfl,q.map (·.block),⟨q,n+1,v,by simpa using t.o.set_ 0 (.slice q (n+1) v),i.o.fr f ?_,rfl⟩,?_,?_⟩
 ·intro ad had e;have:=(i.o.addr ad had).2.1;omega
 ·have F:Fr (fun k=>k=b∨some k=A.map (·.block)) w (w.alloc (.cells #[Aa Ab x,Aa Ab y,Aa Ab z] 46)):=(Fr.refl _ _).alloc _;have G:Fr (fun k=>k=b∨some k=A.map (·.block)) (w.alloc (.cells #[Aa Ab x,Aa Ab y,Aa Ab z] 46)) w1:=u.o.mono (by
   rintro k N ⟨ad,h1,rfl⟩;exact .inr (by rw [h1];rfl))
  exact(F.trans G fun _ _ h=>h).trans f (fun k _ h=> .inl h)
 ·rcases j with h|h
  ·exact .inl h
  ·exact .inr ⟨_,h,by simp⟩
theorem xM(B b:Nat)(g:Option Nat)(x y z:Int)(l:List P3)(w:World)(h:L7 w B b g l)(hxy:¬x<y):
  Calls Ad 44 #[Aa Ab x,Aa Ab y,Aa Ab z,Aca b] w fun e w'=>e= .returned (.tuple #[])∧qU B b g l w w':=by
 have H:=Hd h;clear h;go_enter func44,ntmps44;go_wp2;go_end0;exact⟨rfl,g,H.o,Fr.refl _ _,.inl rfl⟩
structure Ir where
 B0:Nat
 B2:Nat
 bw:Nat
 bm:Nat
 bl:Nat
 A:Option Addr
 n:Nat
 c:Nat
 l:List UInt8
structure Ir.Ok(E:Ir):Prop where
 hA:∀ad,E.A=some ad→ad.block<E.B0
 l0:E.B0≤E.bl
 l2:E.bl<E.B2
 m0:E.B0≤E.bm
 m2:E.bm<E.B2
 w0:E.B0≤E.bw
 w2:E.bw<E.B2
 lm:E.bl≠E.bm
 lw:E.bl≠E.bw
 mw:E.bm≠E.bw
 hc:E.n≤E.c
 hn:E.n≤4294967296
def Ir.cells(E:Ir)(left:Int):Array Value:=#[.slice E.A E.n E.c,Aa Ab left,.map (some E.bm),.func (.func 44) #[] #[Aca E.bl]]
structure E6(E:Ir)(g:Option Nat)(s:Bj)(w:World):Prop where
 ok:E.Ok
 b:B4 w E.A E.n E.l
 W:Bb w E.bw 77 (E.cells s.left)
 M:K4 w E.bm s.had
 O:L7 w E.B2 E.bl g s.o
 sz:E.B2≤w.heap.size
def Ir.Free(E:Ir)(g:Option Nat)(k:Nat):Prop:=k≠E.bl∧k≠E.bm∧k≠E.bw∧g≠some k
structure D8(E:Ir)(g g':Option Nat)(w w':World):Prop where
 fr:Fr (fun k=>¬E.Free g k) w w'
 keep:∀k,k<w.heap.size→E.Free g k→E.Free g' k
section
variable {E:Ir} {s:Bj} {g g' g'':Option Nat} {w w' w'':World}
theorem D8.refl(E:Ir)(g:Option Nat)(w:World):D8 E g g w w:=⟨Fr.refl _ _,fun _ _ h=>h⟩
theorem D8.of_below(hb:Below w.heap.size w w'):D8 E g g w w':=⟨Fr.of_below hb _,fun _ _ h=>h⟩
theorem D8.trans(h:D8 E g g' w w')(h':D8 E g' g'' w' w''):D8 E g g'' w w'':=
 ⟨h.fr.trans h'.fr (fun k hk hn hf=>hn (h.keep k hk hf)),fun k hk hf=>h'.keep k (Nat.lt_of_lt_of_le hk h.fr.size) (h.keep k hk hf)⟩
theorem D8.below(h:D8 E g g' w w')(hb:Below w'.heap.size w' w''):D8 E g g' w w'':=h.trans (D8.of_below hb)
theorem D8.drew(h:D8 E g g' w w'):D8 E g g' w w'.drew:=h.below ((Af _ _).drew)
theorem D8.alloc(h:D8 E g g' w w')(o:Obj):D8 E g g' w (w'.alloc o):=h.below ((Af _ _).alloc (Ae _) o)
def Iu(E:Ir)(g:Option Nat)(w:World)(k:Nat)(t:TypeId)(cs:Array Value):Prop:=Bb w k t cs∧E.Free g k
theorem Iu.to{t:TypeId}(h:Iu E g w k t cs)(ht:D8 E g g' w w'):Iu E g' w' k t cs:=⟨h.1.fr ht.fr (fun hn=>hn h.2),ht.keep k h.1.lt h.2⟩
theorem Iu.pure{t:TypeId}(h:Iu E g w k t cs)(hb:Below w.heap.size w w'):Iu E g w' k t cs:=⟨h.1.pure hb,h.2⟩
theorem Iu.drew{t:TypeId}(h:Iu E g w k t cs):Iu E g w.drew k t cs:=h
theorem E6.pure(h:E6 E g s w)(hb:Below w.heap.size w w'):E6 E g s w':=⟨h.ok,h.b.pure hb,h.W.pure hb,h.M.pure hb,h.O.pure hb,Nat.le_trans h.sz hb.size⟩
theorem E6.drew(h:E6 E g s w):E6 E g s w.drew:=h.pure ((Af _ _).drew)
theorem E6.alloc(h:E6 E g s w)(o:Obj):E6 E g s (w.alloc o):=h.pure ((Af _ _).alloc (Ae _) o)
theorem E6.len(h:E6 E g s w):E.l.length=E.n:=h.b.1
theorem E6.new(h:E6 E g s w):E.Free g w.heap.size:=by
 have:=h.sz;have:=h.ok.l2;have:=h.ok.m2;have:=h.ok.w2;refine⟨by omega,by omega,by omega,fun e=>?_⟩;have:=(h.O.row _ e).2;omega
theorem E6.lone(h:E6 E g s w)(t:TypeId)(cs:Array Value):Iu E g (w.alloc (.cells cs t)) w.heap.size t cs:=⟨Bb.new w t cs,h.new⟩
theorem E6.low(h:E6 E g s w)(hk:k<E.B0):E.Free g k:=by
 have:=h.ok.l0;have:=h.ok.l2;have:=h.ok.m0;have:=h.ok.w0;refine⟨by omega,by omega,by omega,fun e=>?_⟩;have:=(h.O.row _ e).1;omega
theorem D8.belowB(h:D8 E g g' w w')(hw:E6 E g s w):Below E.B0 w w':=by
 refine h.fr.belowB (fun k hk hn=>hn (hw.low hk)) ?_;have:=hw.sz;have:=hw.ok.l0;have:=hw.ok.l2;omega
theorem E6.cells(h:E6 E g s w):w.cell? ⟨E.bw,0,none⟩=some (.slice E.A E.n E.c)∧w.cell? ⟨E.bw,1,none⟩=some (Aa Ab s.left)∧w.cell? ⟨E.bw,2,none⟩=some (.map (some E.bm))∧
  w.cell? ⟨E.bw,3,none⟩=some (.func (.func 44) #[] #[Aca E.bl]):=⟨h.W.cell 0,h.W.cell 1,h.W.cell 2,h.W.cell 3⟩
theorem gW{l':List P3}(h:E6 E g s w)(ht:qU E.B2 E.bl g l' w w'):∃g',E6 E g' { s with o:=l'} w'∧D8 E g g' w w':=by
 have a:=h.ok;obtain⟨g',m,d,n⟩:=ht;have row:=h.O.row;have i:∀k,k<E.B2→k≠E.bl→¬(k=E.bl∨some k=g):=by
  rintro k h1 h2 (h3|h3)
  ·exact h2 h3
  ·have:=(row k h3.symm).1;omega
 refine⟨g',⟨a,h.b.fr d ?_,h.W.fr d (i _ a.w2 (Ne.symm a.lw)),h.M.fr d (i _ a.m2 (Ne.symm a.lm)),m,Nat.le_trans h.sz d.size⟩,d.mono ?_,?_⟩
 ·intro l f;have:=a.hA l f;have:=a.l0;have:=a.l2;exact i _ (by omega) (by omega)
 ·rintro k _ (rfl|e) c
  ·exact c.1 rfl
  ·exact c.2.2.2 e.symm
 ·intro k p c;refine⟨c.1,c.2.1,c.2.2.1,?_⟩;rcases n with rfl|⟨j,rfl,q⟩
  ·exact c.2.2.2
  ·intro e;injection e with e
   omega
theorem G3(a b c:Int)(h:E6 E g s w)(hs:s.o.length≤1073741824):
  Calls Ad 44 #[Aa Ab a,Aa Ab b,Aa Ab c,Aca E.bl] w fun e w'=>e= .returned (.tuple #[])∧∃g',E6 E g' (s.tell a b c) w'∧D8 E g g' w w':=by
 have f:E.B2≤w.heap.size:=h.sz;by_cases d:a<b
 ·refine(tU E.B2 E.bl g a b c s.o w h.O d hs h.sz h.ok.l2).mono ?_;rintro e w' ⟨rfl,ht⟩;have e:s.tell a b c={ s with o:=s.o++ [(a,b,c)]}:=if_pos d;rw [e];exact⟨rfl,gW h ht⟩
 ·refine(xM E.B2 E.bl g a b c s.o w h.O d).mono ?_;rintro e w' ⟨rfl,ht⟩;have e:s.tell a b c=s:=if_neg d;rw [e];exact⟨rfl,gW h ht⟩
end
def Uj(E:Ir)(g:Option Nat)(w:World)(y:Bj×Int)(e:Ending)(w':World):Prop:=e= .returned (Aa Ab y.2)∧∃g',E6 E g' y.1 w'∧D8 E g g' w w'
theorem Bk{p:Addr}{u:Value}(h:w.cell? p=some u):w.drew.cell? p=some u:=h
theorem qF(A:Option Addr)(n c:Nat)(p q t v a m er:Int)(l:List UInt8)(w:World)(h:B4 w A n l)(hc:n≤c)(hn:n≤1099511627776)(h0:C6 l p q t v [4,5,25]=a)(h1:((Eo l p q t v [4,5,25]).length:Int)=m)(h2:C4 l p q t v [4,5,25]=er):
  Calls Ad 150 #[.slice A n c,.agg (Ab9 p q t v)] w (Ab5 (.tuple #[Aa Ab a,Aa Ab m,Aa Ab er]) w):=by
 subst h0 h1 h2;exact kK A n c p q t v l w h hc hn
theorem Nl(s:Bj)(a b c:Int):(s.tell a b c).o.length≤s.o.length+1:=by
 unfold Bj.tell;by_cases h:a<b
 ·rw [if_pos h];simp
 ·rw [if_neg h];omega
theorem U8(h:C4 l p q t v [4,5,25]=0):0≤C6 l p q t v [4,5,25]∧C6 l p q t v [4,5,25]+(Eo l p q t v [4,5,25]).length≤l.length∧0≤v∧v≤8∧Cc l.length p q t v=0:=by
 have b:Cc l.length p q t v=0:=by
  by_cases g:Cc l.length p q t v=0
  ·exact g
  ·unfold C4 at h;rw [if_pos g] at h;exact absurd h g
 obtain⟨a,h1,_,h3⟩:=rV h;have c:=B6.1 (Cz.1 (Dy.1 b).1).2.2;refine⟨by omega,by omega,by omega,by omega,b⟩
theorem Ob(E:Ir)(g:Option Nat)(s:Bj)(p q t v:Int)(w:World)(h:E6 E g s w)(hs:s.o.length≤1000000000):
  Calls Ad 80 #[Aca E.bw,.agg (Ab9 p q t v)] w (Uj E g w (Cn E.l ⟨p,q,t,v⟩ s)):=by
 have j:=Hd (h.alloc (.cells (Ab9 p q t v) 70));have d:=Hd (h.lone 70 (Ab9 p q t v));have k:=Hd ((D8.refl E g w).alloc (.cells (Ab9 p q t v) 70));obtain⟨a,S⟩:∃a,C6 E.l p q t v [4,5,25]=a:=⟨_,rfl⟩;obtain⟨m,T⟩:∃m:Int,((Eo E.l p q t v [4,5,25]).length:Int)=m:=⟨_,rfl⟩;obtain⟨L,J⟩:∃a,C4 E.l p q t v [4,5,25]=a:=⟨_,rfl⟩;have F:=Hd S;have D:=Hd T;have C:=Hd J;have P:=h.ok.hc;have Z:=h.ok.hn;have K:=h.len;clear h S T J;obtain⟨r,G,H,u⟩:=j.o.cells;have x:=Bg d.o.1;have y:=Bf d.o.1;have z:=Be d.o.1;have B:=Bh d.o.1;go_enter func80,ntmps80;go_wp2_with fail;go_region_held3 (fun w'=>w'.cell? ⟨E.bw,0,none⟩=some (.slice E.A E.n E.c)∧w'.cell? ⟨E.bw,3,none⟩=some (.func (.func 44) #[] #[Aca E.bl])∧(w'.cell? ⟨w.heap.size,0,none⟩=some (Aa Ab p)∧w'.cell? ⟨w.heap.size,1,none⟩=some (Aa Ab q)∧w'.cell? ⟨w.heap.size,2,none⟩=some (Aa Ab t)∧w'.cell? ⟨w.heap.size,3,none⟩=some (Aa Ab v))) (first|with_reducible exact⟨r,u,x,y,z,B⟩|with_reducible exact⟨Bk r,Bk u,Bk x,Bk y,Bk z,Bk B⟩) (first|(go_at_call 150;(with_reducible refine(qF E.A E.n E.c p q t v a m L E.l _ j.o.drew.b P (by omega) F.o D.o C.o).mono ?_);rintro e w1 ⟨rfl,I⟩;replace k:=Hd (k.o.drew.below I);replace j:=Hd (j.o.drew.pure I);replace d:=Hd (d.o.drew.pure I);clear r G H u x y z B;clear I;obtain⟨r,G,H,u⟩:=j.o.cells;have x:=Bg d.o.1;have y:=Bf d.o.1;have z:=Be d.o.1;have B:=Bh d.o.1));by_cases J:L=0
 ·subst J;obtain⟨V,R,b2,b3,_⟩:=U8 C.o;rw [F.o] at V R;have W:0≤m:=by have:=D.o;omega
  have X:a+m≤4294967296:=by have:=D.o;omega
  clear R K;by_cases N:t=4
  ·subst N;go_wp2_with (go_at_call 44;(with_reducible refine(G3 a (a+m+1) 9 j.o (by omega)).mono ?_);rintro e Q ⟨rfl,M,i,f⟩;replace k:=Hd (k.o.trans f);replace d:=Hd (d.o.to f);replace j:=Hd i;clear r G H u x y z B;clear i f;obtain⟨r,G,H,u⟩:=j.o.cells;have x:=Bg d.o.1;have y:=Bf d.o.1;have z:=Be d.o.1;have B:=Bh d.o.1);go_ret;have e:Cn E.l ⟨p,q,4,v⟩ s=(s.tell a (a+m+1) 9,0):=by
    unfold Cn;rw [C.o,F.o,D.o];rfl
   rw [e];exact⟨rfl,_,j.o,k.o⟩
  ·have e4:(t==4)=false:=beq_eq_false_iff_ne.mpr N;have s1:=Nl s (a-v) a 6;have hw:IntKind.i64.wrap (a-v)=a-v:=Ag _ (by omega);go_wp2_with fail;go_region_held3 (fun w'=>w'.cell? ⟨E.bw,0,none⟩=some (.slice E.A E.n E.c)∧w'.cell? ⟨E.bw,3,none⟩=some (.func (.func 44) #[] #[Aca E.bl])∧(w'.cell? ⟨w.heap.size,0,none⟩=some (Aa Ab p)∧w'.cell? ⟨w.heap.size,1,none⟩=some (Aa Ab q)∧w'.cell? ⟨w.heap.size,2,none⟩=some (Aa Ab t)∧w'.cell? ⟨w.heap.size,3,none⟩=some (Aa Ab v))) (first|with_reducible exact⟨r,u,x,y,z,B⟩|with_reducible exact⟨Bk r,Bk u,Bk x,Bk y,Bk z,Bk B⟩) (first|(go_at_call 44;(with_reducible refine(G3 (a-v) a 6 j.o.drew (by omega)).mono ?_);rintro e Q ⟨rfl,M,i,f⟩;replace k:=Hd (k.o.drew.trans f);replace d:=Hd (d.o.drew.to f);replace j:=Hd i;clear r G H u x y z B;clear i f;obtain⟨r,G,H,u⟩:=j.o.cells;have x:=Bg d.o.1;have y:=Bf d.o.1;have z:=Be d.o.1;have B:=Bh d.o.1));by_cases O:t=5
   ·subst O;go_wp2_with (go_at_call 44;(with_reducible refine(G3 a (a+m+1) 10 j.o (by omega)).mono ?_);rintro e Q ⟨rfl,M,i,f⟩;replace k:=Hd (k.o.trans f);replace d:=Hd (d.o.to f);replace j:=Hd i;clear r G H u x y z B;clear i f;obtain⟨r,G,H,u⟩:=j.o.cells;have x:=Bg d.o.1;have y:=Bf d.o.1;have z:=Be d.o.1;have B:=Bh d.o.1);go_ret;have e:Cn E.l ⟨p,q,5,v⟩ s=((s.tell (a-v) a 6).tell a (a+m+1) 10,0):=by
     unfold Cn;rw [C.o,F.o,D.o];rfl
    rw [e];exact⟨rfl,_,j.o,k.o⟩
   ·have e5:(t==5)=false:=beq_eq_false_iff_ne.mpr O;go_wp2_with (go_at_call 44;(with_reducible refine(G3 a (a+m) 11 j.o (by omega)).mono ?_);rintro e Q ⟨rfl,M,i,f⟩;replace k:=Hd (k.o.trans f);replace d:=Hd (d.o.to f);replace j:=Hd i;clear r G H u x y z B;clear i f;obtain⟨r,G,H,u⟩:=j.o.cells;have x:=Bg d.o.1;have y:=Bf d.o.1;have z:=Be d.o.1;have B:=Bh d.o.1);go_ret;have e:Cn E.l ⟨p,q,t,v⟩ s=((s.tell (a-v) a 6).tell a (a+m) 11,0):=by
     unfold Cn;rw [C.o,F.o,D.o];simp [N,O]
    rw [e];exact⟨rfl,_,j.o,k.o⟩
 ·have Y:(L != 0)=true:=by simpa using J
  have e:Cn E.l ⟨p,q,t,v⟩ s=(s,L):=by
   unfold Cn;rw [C.o,if_pos J]
  have U:=Hd e;clear e J;go_wp2_with fail;go_ret;rw [U.o];exact⟨rfl,_,j.o,k.o⟩
theorem kL(h:Gu l p q t v=0):0≤Hr l p q t v∧Hr l p q t v≤l.length∧0≤Jl l p q t v∧Jl l p q t v≤8:=by
 unfold Hr Jl;rw [if_pos h,if_pos h];rcases N1 l p q t v with⟨b,e⟩|⟨b,_⟩
 ·rw [e] at h;exact absurd h b
 obtain⟨h1,h2⟩:=Dy.1 b;have h2:=Em.1 h2;have c:=B6.1 (Cz.1 h1).2.1;have d:=B6.1 (Cz.1 h1).2.2;by_cases a:Bt t=true
 ·rw [if_pos a,if_pos a];omega
 ·rw [if_neg a,if_neg a];have ht:0≤By l p q t v∧By l p q t v≤l.length:=by
   by_cases g:B8 l p q t v=0
   ·exact L0 g
   ·unfold By;rw [if_neg g];omega
  omega
theorem Re(E:Ir)(g:Option Nat)(s:Bj)(p q t v:Int)(w:World)(h:E6 E g s w)(hs:s.o.length≤1000000000):
  Calls Ad 81 #[Aca E.bw,.agg (Ab9 p q t v)] w (Uj E g w (Ct E.l ⟨p,q,t,v⟩ s)):=by
 have i:=Hd (h.alloc (.cells (Ab9 p q t v) 70));have d:=Hd (h.lone 70 (Ab9 p q t v));have u:=Hd ((D8.refl E g w).alloc (.cells (Ab9 p q t v) 70));obtain⟨a,N⟩:∃a,Hr E.l p q t v=a:=⟨_,rfl⟩;obtain⟨m,P⟩:∃m,Jl E.l p q t v=m:=⟨_,rfl⟩;obtain⟨K,H⟩:∃a,Gu E.l p q t v=a:=⟨_,rfl⟩;have r:=Hd N;have x:=Hd P;have j:=Hd H;have M:=h.ok.hc;have X:=h.ok.hn;have O:=h.len;clear h N P H;obtain⟨z,I,J,B⟩:=i.o.cells;have C:=Bg d.o.1;have D:=Bf d.o.1;have F:=Be d.o.1;have G:=Bh d.o.1;go_enter func81,ntmps81;go_wp2_with fail;go_region_held3 (fun w'=>w'.cell? ⟨E.bw,0,none⟩=some (.slice E.A E.n E.c)∧w'.cell? ⟨E.bw,3,none⟩=some (.func (.func 44) #[] #[Aca E.bl])∧(w'.cell? ⟨w.heap.size,0,none⟩=some (Aa Ab p)∧w'.cell? ⟨w.heap.size,1,none⟩=some (Aa Ab q)∧w'.cell? ⟨w.heap.size,2,none⟩=some (Aa Ab t)∧w'.cell? ⟨w.heap.size,3,none⟩=some (Aa Ab v))) (first|with_reducible exact⟨z,B,C,D,F,G⟩|with_reducible exact⟨Bk z,Bk B,Bk C,Bk D,Bk F,Bk G⟩) (first|(go_at_call 151;(with_reducible refine(zW E.A E.n E.c p q t v E.l a m K _ i.o.drew.b M (by omega) r.o x.o j.o).mono ?_);rintro e w1 ⟨rfl,y⟩;replace u:=Hd (u.o.drew.below y);replace i:=Hd (i.o.drew.pure y);replace d:=Hd (d.o.drew.pure y);clear z I J B C D F G;clear y;obtain⟨z,I,J,B⟩:=i.o.cells;have C:=Bg d.o.1;have D:=Bf d.o.1;have F:=Be d.o.1;have G:=Bh d.o.1));by_cases H:K=0
 ·subst H;obtain⟨R,S,T,U⟩:=kL j.o;rw [r.o] at R S;rw [x.o] at T U;by_cases L:t=6
  ·subst L;go_wp2_with (go_at_call 44;(with_reducible refine(G3 a (a+m) 12 i.o (by omega)).mono ?_);rintro e Y ⟨rfl,V,k,f⟩;replace u:=Hd (u.o.trans f);replace d:=Hd (d.o.to f);replace i:=Hd k;clear z I J B C D F G;clear k f;obtain⟨z,I,J,B⟩:=i.o.cells;have C:=Bg d.o.1;have D:=Bf d.o.1;have F:=Be d.o.1;have G:=Bh d.o.1);go_ret;have e:Ct E.l ⟨p,q,6,v⟩ s=(s.tell a (a+m) 12,0):=by
    unfold Ct;rw [j.o,r.o,x.o];rfl
   rw [e];exact⟨rfl,_,i.o,u.o⟩
  ·have Z:(t==6)=false:=beq_eq_false_iff_ne.mpr L;go_wp2_with (go_at_call 44;(with_reducible refine(G3 a (a+m) 13 i.o (by omega)).mono ?_);rintro e Y ⟨rfl,V,k,f⟩;replace u:=Hd (u.o.trans f);replace d:=Hd (d.o.to f);replace i:=Hd k;clear z I J B C D F G;clear k f;obtain⟨z,I,J,B⟩:=i.o.cells;have C:=Bg d.o.1;have D:=Bf d.o.1;have F:=Be d.o.1;have G:=Bh d.o.1);go_ret;have e:Ct E.l ⟨p,q,t,v⟩ s=(s.tell a (a+m) 13,0):=by
    unfold Ct;rw [j.o,r.o,x.o];simp [L]
   rw [e];exact⟨rfl,_,i.o,u.o⟩
 ·have W:(K==0)=false:=beq_eq_false_iff_ne.mpr H;have e:Ct E.l ⟨p,q,t,v⟩ s=(s,K):=by
   unfold Ct;rw [j.o,if_neg H]
  have Q:=Hd e;clear e H;go_wp2_with fail
  all_goals
   go_ret;rw [Q.o];exact⟨rfl,_,i.o,u.o⟩
def Bj.size(s:Bj):Nat:=s.o.length+8*s.left.toNat
theorem E0(s:Bj)(a b c:Int):(s.tell a b c).left=s.left:=by unfold Bj.tell;split <;>rfl
theorem Ia(s:Bj)(a b c:Int):(s.tell a b c).had=s.had:=by unfold Bj.tell;split <;>rfl
theorem N5(s:Bj)(a b c:Int):(s.tell a b c).size≤s.size+1:=by
 unfold Bj.size;rw [E0];have:=Nl s a b c;omega
def Eu(k:Nat)(s s':Bj):Prop:=s'.left≤s.left∧s'.size≤s.size+k
theorem Eu.refl(s:Bj):Eu 0 s s:=⟨Int.le_refl _,Ae _⟩
theorem Eu.mono{s s':Bj}(h:Eu k s s')(hk:k≤j):Eu j s s':=⟨h.1,by have:=h.2;omega⟩
theorem Eu.trans{s s' s'':Bj}(h:Eu k s s')(h':Eu j s' s''):Eu (k+j) s s'':=⟨Int.le_trans h'.1 h.1,by have:=h.2;have:=h'.2;omega⟩
theorem G8(s:Bj)(a b c:Int):Eu 1 s (s.tell a b c):=⟨by rw [E0];exact Int.le_refl _,N5 s a b c⟩
def Pa(go:Rq→Bj→Bj×Int):Prop:=∀r s,Eu 0 s (go r s).1∧((go r s).2=0→(go r s).1.size+4≤s.size)
section
variable {l:List UInt8} {go:Rq→Bj→Bj×Int} (r:Rq)
theorem qB(s:Bj):Eu 2 s (Cn l r s).1:=by
 unfold Cn;split
 ·exact(Eu.refl s).mono (by omega)
 ·split
  ·exact(G8 _ _ _ _).mono (by omega)
  ·split
   ·exact(G8 _ _ _ _).trans (G8 _ _ _ _)
   ·exact(G8 _ _ _ _).trans (G8 _ _ _ _)
theorem iL(s:Bj):Eu 2 s (Ct l r s).1:=by
 unfold Ct;split
 ·exact(G8 _ _ _ _).mono (by omega)
 ·exact(Eu.refl s).mono (by omega)
theorem nP(hgo:Pa go)(s:Bj):Eu 0 s (Fe l go r s).1:=by
 unfold Fe;split
 ·exact Eu.refl s
 ·split
  ·exact(hgo _ _).1
  ·rename_i h;have h:=(hgo (Gf l r) s).2 (Decidable.of_not_not h);have h1:=(hgo (Gf l r) s).1;have h2:=G8 (go (Gf l r) s).1 (lsFrom l r.p r.q r.t r.v+r.v) (lsFrom l r.p r.q r.t r.v+2*r.v) 7;exact⟨Int.le_trans h2.1 h1.1,by have:=h2.2;simp only at this ⊢;omega⟩
theorem Ql(i:Nat)(s:Bj):Eu 1 s (D6 l r i s):=by
 unfold D6;split
 ·exact G8 _ _ _ _
 ·exact(Eu.refl s).mono (by omega)
theorem Tx(s:Bj):Eu 1 s (Hl l r s):=by
 unfold Hl;split
 ·exact G8 _ _ _ _
 ·exact(Eu.refl s).mono (by omega)
theorem Uz(hgo:Pa go):∀(k i:Nat) (s:Bj),Eu 1 s (Du l go r k i s).1
 |0,i,s=>(Eu.refl s).mono (by omega)
 |k+1,i,s=>by
  unfold Du;split
  ·exact Ql r i s
  ·have ht:=Ql (l:=l) r i s;have a:=hgo (G0 l r i) (D6 l r i s);split
   ·exact ht.trans a.1
   ·rename_i h;have h:=a.2 (Decidable.of_not_not h);have b:=Uz hgo k (i+1) (go (G0 l r i) (D6 l r i s)).1;exact⟨Int.le_trans b.1 (Int.le_trans a.1.1 ht.1),by have:=b.2;have:=ht.2;omega⟩
theorem Nx(hgo:Pa go)(s:Bj):Eu 0 s (Eg l go r s).1:=by
 unfold Eg;split
 ·exact nP r hgo s
 ·exact Eu.refl s
theorem oE(hgo:Pa go)(s:Bj):Eu 2 s (Db l go r s).1:=by
 unfold Db;split
 ·exact(Eu.refl s).mono (by omega)
 ·split
  ·exact(Nx r hgo s).mono (by omega)
  ·exact((Nx r hgo s).trans (Tx r _)).trans (Uz r hgo _ _ _)
theorem mJ(hgo:Pa go)(s:Bj):Eu 2 s (Da l go r s).1:=by
 unfold Da;split
 ·exact qB r s
 ·split
  ·exact iL r s
  ·exact oE r hgo s
end
theorem kT(r:Rq)(s:Bj)(h:¬s.left<1):(Cw r s).left≤s.left∧(Cw r s).size+7≤s.size:=by
 unfold Cw;have h1:=N5 s.burn r.p (r.p+r.q) (Ej r.t);rw [E0];have e:s.burn.size+8=s.size:=by unfold Bj.size Bj.burn;simp only;omega
 exact⟨by unfold Bj.burn;simp only;omega,by omega⟩
theorem Ns(l:List UInt8):∀d,Pa (Ca l d)
 |0,r,s=>⟨Eu.refl s,fun h=>by cases h⟩
 |d+1,r,s=>by
  unfold Ca;split
  ·exact⟨Eu.refl s,fun h=>by cases h⟩
  ·rename_i hl;obtain⟨h1,h2⟩:=kT r s hl;split
   ·exact⟨⟨h1,by simp only;omega⟩,fun _=>by simp only;omega⟩
   ·split
    ·exact⟨⟨h1,by simp only;omega⟩,fun _=>by simp only;omega⟩
    ·have a:=mJ (l:=l) r (Ns l d) ((Cw r s).see (F7 l r));have b:((Cw r s).see (F7 l r)).left=(Cw r s).left:=rfl;have c:((Cw r s).see (F7 l r)).size=(Cw r s).size:=rfl;rw [Eu,b,c] at a;exact⟨⟨Int.le_trans a.1 h1,by have:=a.2;omega⟩,fun _=>by have:=a.2;omega⟩
def K6(n:Nat)(r:Rq):Prop:=0≤r.p∧1≤r.q∧r.q≤8∧r.p+r.q≤n
theorem Vo{n:Nat}(h:Cc n p q t v=0):K6 n ⟨p,q,t,v⟩∧1≤v∧v≤8:=by
 obtain⟨h1,h2⟩:=Dy.1 h;have h2:=Em.1 h2;have hq:=B6.1 (Cz.1 h1).2.1;have hv:=B6.1 (Cz.1 h1).2.2;refine⟨⟨h2.1,?_,?_,h2.2.2⟩,?_,?_⟩ <;>(first|omega|(simp only;omega))
theorem oJ(h:Cp l p q t v=0):Cc l.length p q t v=0:=by
 rcases M8 l p q t v with⟨g,e⟩|⟨g,_⟩
 ·rw [e] at h;exact absurd h g
 ·exact g
theorem wI(h:Cp l p q t v=0):lsFrom l p q t v+aheadT t*v.toNat=lsAt l p q t v:=by
 unfold lsFrom lsAt;rw [if_pos h,if_pos h];rcases M8 l p q t v with⟨_,e⟩|⟨_,⟨_,e⟩|⟨_,⟨_,e⟩|⟨_,⟨_,e⟩|⟨_,_,e⟩|⟨_,_,_,e⟩|⟨_,a,_,_⟩⟩⟩⟩
 ·rw [e] at h;exact absurd h (by assumption)
 ·rw [e] at h;cases h
 ·rw [e] at h;exact absurd h (by assumption)
 ·rw [e] at h;cases h
 ·rw [e] at h;cases h
 ·rw [e] at h;cases h
 ·omega
theorem Ml(h:Cp l p q t v=0):1≤v∧v≤8∧lsFrom l p q t v+aheadT t*v.toNat=lsAt l p q t v∧lsAt l p q t v+lsLen l p q t v*(v.toNat+tgs t)≤l.length:=
 ⟨(Vo (oJ h)).2.1,(Vo (oJ h)).2.2,wI h,(Sf h).2.2.2.1⟩
theorem jW(h:J8 l p q t v=0):t=9∧Cp l p q t v=0∧K6 l.length (Gf l ⟨p,q,t,v⟩)∧(lsFrom l p q t v:Int)+3*v≤l.length∧1≤v∧v≤8:=by
 rcases Tw l p q t v with⟨g,e⟩|⟨_,⟨_,e⟩|⟨ht,⟨g,e⟩|⟨a,_⟩⟩⟩
 ·rw [e] at h;exact absurd h g
 ·rw [e] at h;cases h
 ·rw [e] at h;exact absurd h g
 obtain⟨h1,h2,h3,d⟩:=Ml a;have c:aheadT t=3:=by rw [ht];rfl
 rw [c] at h3;have b:(lsFrom l p q t v:Int)+3*v≤l.length:=by omega
 refine⟨ht,a,?_,b,h1,h2⟩;unfold K6 Gf Vc Vd;simp only [if_pos h];omega
theorem E6.newer{E:Ir}{s:Bj}(h:E6 E g s w)(hk:w.heap.size≤k):E.Free g k:=by
 have:=h.sz;have:=h.ok.l2;have:=h.ok.m2;have:=h.ok.w2;refine⟨by omega,by omega,by omega,fun e=>?_⟩;have:=(h.O.row _ e).2;omega
def Wf(E:Ir)(go:Rq→Bj→Bj×Int)(d:Nat):Prop:=∀(g:Option Nat) (s:Bj) (p q t v:Int) (w:World),E6 E g s w→s.left.toNat<d→s.size≤900000000→K6 E.l.length ⟨p,q,t,v⟩→
 Calls Ad 45 #[Aca E.bw,.agg (Ab9 p q t v)] w (Uj E g w (go ⟨p,q,t,v⟩ s))
theorem Dw(s:Bj):s.o.length≤s.size:=by unfold Bj.size;omega
theorem dT(E:Ir)(go:Rq→Bj→Bj×Int)(d:Nat)(hgo:Wf E go d)(hgoes:Pa go)(g:Option Nat)(s:Bj)(p q t v f:Int)(w:World)(h:E6 E g s w)(hd:s.left.toNat<d)(hs:s.size≤900000000)(hf:(lsFrom E.l p q t v:Int)=f):
  Calls Ad 154 #[Aca E.bw,.agg (Ab9 p q t v),Aa Ab f] w (Uj E g w (Fe E.l go ⟨p,q,t,v⟩ s)):=by
 have m:=Hd (h.alloc (.cells (Ab9 p q t v) 70));have j:=Hd (h.lone 70 (Ab9 p q t v));have D:=Hd ((D8.refl E g w).alloc (.cells (Ab9 p q t v) 70));have ap:=Hd hgo;have aq:=Hd hgoes;obtain⟨z,ae⟩:∃a,Vc E.l p q t v=a:=⟨_,rfl⟩;obtain⟨B,af⟩:∃a,Vd E.l p q t v=a:=⟨_,rfl⟩;obtain⟨C,ag⟩:∃a,Yf E.l p q t v=a:=⟨_,rfl⟩;obtain⟨kv,ah⟩:∃a,Yg E.l p q t v=a:=⟨_,rfl⟩;obtain⟨V,N⟩:∃a,J8 E.l p q t v=a:=⟨_,rfl⟩;have HP:=Hd ae;have H:=Hd af;have HT:=Hd ag;have HV:=Hd ah;have F:=Hd N;have HF:=Hd hf;have ab:=h.ok.hc;have ba:=h.ok.hn;have a2:=h.len;clear h ae af ag ah N hf hgo hgoes;go_enter func154,ntmps154;go_upto_region 1 with fail
 generalize w.alloc (.cells (Ab9 p q t v) 70)=J at m j D⊢;go_cut [7,8] (fun u7 u8 wx=>∃wy,wy=wx∧u8= Aa Ab V∧∃k,u7= Aca k∧Bb wx k 70 (Ab9 z B C kv)∧J.heap.size≤k∧Below J.heap.size J wx)
 case first=>
  have r:=Hd (Af J.heap.size J);have HL:=Hd m.o.b;have U:=Hd m.o.W;have T:=Hd j.o.1;have a6:E.bw≠J.heap.size:=by have:=U.o.lt;omega
  have a7:w.heap.size≠J.heap.size:=by have:=T.o.lt;omega
  clear j D m;have K:_=some (Value.slice E.A E.n E.c):=U.o.cell 0;obtain ⟨P,Q,R,S⟩:=T.o.c4;go_region_held3 (fun w'=>w'.cell? ⟨E.bw,0,none⟩=some (.slice E.A E.n E.c)∧(w'.cell? ⟨w.heap.size,0,none⟩=some (Aa Ab p)∧w'.cell? ⟨w.heap.size,1,none⟩=some (Aa Ab q)∧w'.cell? ⟨w.heap.size,2,none⟩=some (Aa Ab t)∧w'.cell? ⟨w.heap.size,3,none⟩=some (Aa Ab v))) ((with_reducible refine⟨?_,?_,?_,?_,?_⟩) <;>(repeat (first|with_reducible assumption|with_reducible refine Bw ?_|with_reducible refine Dj _ ?_|with_reducible refine Sg ?_ ?_)))
   (first|(go_at_call 93;(first|(with_reducible refine(aF E.A E.n E.c p q t v z B C kv V E.l _ (HL.o.pure r.o.drew) ab (by omega) HP.o H.o HT.o HV.o F.o).mono ?_)|(with_reducible refine(aF E.A E.n E.c p q t v z B C kv V E.l _ (HL.o.pure (r.o.alloc r.o.size _).drew) ab (by omega) HP.o H.o HT.o HV.o F.o).mono ?_));rintro e X ⟨rfl,I⟩;(first|(with_reducible replace r:=Hd (A6 r.o.drew I))|((with_reducible have G:=Hd ((Bb.new J 70 (Ab9 0 0 0 0)).drew.pure I));(with_reducible replace r:=Hd (A6 (r.o.alloc r.o.size _).drew I));obtain ⟨q0,q1,q2,q3⟩:=G.o.c4;obtain ⟨p0,p1,p2⟩:=G.o.f3;have p3:=G.o.frozen 3));replace U:=Hd (U.o.pure r.o);replace T:=Hd (T.o.pure r.o);clear K P Q R S;have K:_=some (Value.slice E.A E.n E.c):=U.o.cell 0;obtain ⟨P,Q,R,S⟩:=T.o.c4;have a8:E.bw≠X.heap.size:=(by have:=U.o.lt;omega);have a9:w.heap.size≠X.heap.size:=(by have:=T.o.lt;omega);clear I))
  all_goals
   go_wp2_with fail;go_meet
   first
    |with_reducible exact⟨_,rfl,rfl,_,rfl,Bb.new _ _ _,r.o.size,r.o.alloc r.o.size _⟩
    |exact⟨_,rfl,rfl,_,rfl,(((G.o.set_ 0 _).set_ 1 _).set_ 2 _).set_ 3 _,Ae _,B9 _ r.o (Ae _) _ _ _ _⟩
 case rest=>
 obtain⟨X,rfl,rfl,k,rfl,hK,hk,I⟩:=hcut;have G:=Hd (show Iu E g X k 70 (Ab9 z B C kv) from⟨hK,m.o.newer hk⟩);replace m:=Hd (m.o.pure I);replace j:=Hd (j.o.pure I);replace D:=Hd (D.o.below I);clear hK hk I;by_cases N:V=0
 ·subst N;obtain⟨ht,hl,ai,av,bb,bd⟩:=jW F.o;subst ht;have k0:=Bg G.o.1;have k1:=Bf G.o.1;have k2:=Be G.o.1;have k3:=Bh G.o.1;have ar:=Hd (show K6 E.l.length ⟨z,B,C,kv⟩ by have:=ai;unfold Gf at this;rw [HP.o,H.o,HT.o,HV.o] at this;exact this);have ad:Gf E.l ⟨p,q,9,v⟩=⟨z,B,C,kv⟩:=by unfold Gf;rw [HP.o,H.o,HT.o,HV.o]
  have O:Fe E.l go ⟨p,q,9,v⟩ s=if(go ⟨z,B,C,kv⟩ s).2≠0 then go ⟨z,B,C,kv⟩ s else((go ⟨z,B,C,kv⟩ s).1.tell (f+v) (f+2*v) 7,0):=by
   unfold Fe;rw [F.o,if_neg (by decide),ad,HF.o]
  obtain⟨y,hy⟩:∃y,go ⟨z,B,C,kv⟩ s=y:=⟨_,rfl⟩;rw [hy] at O;have be:y.1.o.length≤900000000:=by
   have h1:=(aq.o ⟨z,B,C,kv⟩ s).1.2;rw [hy] at h1;have:=Dw y.1;omega
  have HY:=Hd hy;have u:=Hd O;have a3:0≤f:=by have:=HF.o;omega
  have a4:f≤4294967296:=by have:=HF.o;omega
  have i:=ap.o g s z B C kv X m.o hd hs ar.o;rw [hy] at i;have Y:=Hd i;clear ai ad O hy i hl av;go_wp2_with fail;go_at_call 45;refine Y.o.mono ?_;rintro e w4 ⟨rfl,g4,aa,M⟩;replace D:=Hd (D.o.trans M);replace j:=Hd (j.o.to M);replace m:=Hd aa;clear G aa M Y k0 k1 k2 k3;by_cases x:y.2=0
  ·have h1:=u.o;rw [x,if_neg (by decide)] at h1;rw [x];replace u:=Hd h1;clear h1 x;obtain⟨K,c1,c2,c3⟩:=m.o.cells;have P:=Bg j.o.1;have Q:=Bf j.o.1;have R:=Be j.o.1;have S:=Bh j.o.1;have J:IntKind.i64.wrap (f+v)=f+v:=Ag _ (by omega);have w2:IntKind.i64.wrap (2*v)=2*v:=Ag _ (by omega);have X:IntKind.i64.wrap (f+2*v)=f+2*v:=Ag _ (by omega);go_wp2_with fail;go_region_held3 (fun w'=>w'.cell? ⟨E.bw,0,none⟩=some (.slice E.A E.n E.c)∧w'.cell? ⟨E.bw,3,none⟩=some (.func (.func 44) #[] #[Aca E.bl])∧(w'.cell? ⟨w.heap.size,0,none⟩=some (Aa Ab p)∧w'.cell? ⟨w.heap.size,1,none⟩=some (Aa Ab q)∧w'.cell? ⟨w.heap.size,2,none⟩=some (Aa Ab 9)∧w'.cell? ⟨w.heap.size,3,none⟩=some (Aa Ab v))) (first|with_reducible exact⟨K,c3,P,Q,R,S⟩|with_reducible exact⟨Bk K,Bk c3,Bk P,Bk Q,Bk R,Bk S⟩) (first|(go_at_call 44;(with_reducible refine(G3 (f+v) (f+2*v) 7 m.o.drew (by omega)).mono ?_);rintro e w2 ⟨rfl,g2,Z,L⟩;replace D:=Hd (D.o.drew.trans L);replace j:=Hd (j.o.drew.to L);replace m:=Hd Z;clear K c1 c2 c3 P Q R S;clear Z L;obtain⟨K,c1,c2,c3⟩:=m.o.cells;have P:=Bg j.o.1;have Q:=Bf j.o.1;have R:=Be j.o.1;have S:=Bh j.o.1));go_wp2_with fail;go_ret;rw [u.o];exact⟨rfl,_,m.o,D.o⟩
  ·have aw:(y.2==0)=false:=beq_eq_false_iff_ne.mpr x;have h1:=u.o;rw [if_pos x] at h1;replace u:=Hd h1;clear h1 x;go_wp2_with fail;go_ret;rw [u.o];exact⟨rfl,_,m.o,D.o⟩
 ·have aw:(V==0)=false:=beq_eq_false_iff_ne.mpr N;have e:Fe E.l go ⟨p,q,t,v⟩ s=(s,V):=by
   unfold Fe;rw [F.o,if_pos N]
  have au:=Hd e;clear e N;go_wp2_with fail
  all_goals
   go_ret;rw [au.o];exact⟨rfl,_,m.o,D.o⟩
end Go.Proofs.YtejpbijeifjdeaaGreat
