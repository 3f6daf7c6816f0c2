/- Parts of the proof. -/
import Derived.Test.YtgbjodnegkbfoaaGreatQa30
set_option maxHeartbeats 2000000
set_option maxRecDepth 100000
open Go.Value renaming int→Aa
open Go.IntKind renaming i64→Ab
open Nat renaming le_refl→Ath
open List renaming length_append→Atj,length_map→Atq
open Int renaming toNat_natCast→Ats
namespace Go.Proofs.YtgbjodnegkbfoaaGreat
open Go.RowKit Go.Acc
def Tk:Array MapEntry:=#[⟨Aa Ab 0,Aa Ab 1,0⟩,⟨Aa Ab 1,Aa Ab 2,1⟩,⟨Aa Ab 2,Aa Ab 3,2⟩,⟨Aa Ab 26,Aa Ab 4,3⟩]
theorem Ap3(t:Int):∃(k:Int) (b:Bool),(if b=true then k else 5)=E6 t∧∀(W:World) (g:Nat),W.heap[g]?=some (.map Tk 4)→
  (Instr.lookup 115 (.map (some g)) (Aa Ab t) true).run Tryz.prog W= .ok (.tuple #[Aa Ab k,.bool b]) W:=by
 have hz:∀W:World,(zeroValue 3).run Tryz.prog W= .ok (Aa Ab 0) W:=by intro W;go_simp
 have key:∀(r:Option (Nat×Value)) (W:World) (g:Nat),Instr.findNow (.int .i64) (Aa Ab t) Tk.toList 0=some r→W.heap[g]?=some (.map Tk 4)→(Instr.lookup 115 (.map (some g)) (Aa Ab t) true).run Tryz.prog W= .ok (.tuple #[(r.map (·.2)).getD (Aa Ab 0),.bool r.isSome]) W:=by
  intro r W g h hb;exact Ts Tryz.underlying115 Tryz.underlying3 (Aa Ab 0) hz W Tk 4 g t true r hb h
 by_cases h0:t=0
 ·subst h0;exact⟨1,true,rfl,fun W g hb=>key (some (0,Aa Ab 1)) W g rfl hb⟩
 by_cases h1:t=1
 ·subst h1;exact⟨2,true,rfl,fun W g hb=>key (some (1,Aa Ab 2)) W g rfl hb⟩
 by_cases h2:t=2
 ·subst h2;exact⟨3,true,rfl,fun W g hb=>key (some (2,Aa Ab 3)) W g rfl hb⟩
 by_cases h3:t=26
 ·subst h3;exact⟨4,true,rfl,fun W g hb=>key (some (3,Aa Ab 4)) W g rfl hb⟩
 refine⟨0,false,by simp [E6,h0,h1,h2,h3],fun W g hb=>key none W g ?_ hb⟩;have e0:(t==0)=false:=by simpa using h0
 have e1:(t==1)=false:=by simpa using h1
 have e2:(t==2)=false:=by simpa using h2
 have e3:(t==26)=false:=by simpa using h3
 simp only [Tk,Instr.findNow,Instr.sameNow,if_true,e0,e1,e2,e3]
theorem Ana(t:Int)(w:World):Calls Tryz.prog 104 #[Aa Ab t] w fun e w'=>e= .returned (Aa Ab (E6 t))∧Below w.heap.size w w':=by
 have h0:=run_makeMap (P:=Tryz.prog) 115;have h1:∀(W:World) (es:Array MapEntry) (c:Nat) (x:Int) (v:Value),Instr.findNow (.int .i64) (.int .i64 x) es.toList 0=some none→(Instr.mapUpdate 115 (.map (some W.heap.size)) (.int .i64 x) v).run Tryz.prog (W.alloc (.map es c))= .ok () (W.alloc (.map (es.push { key:= .int .i64 x,val:=v,born:=c}) (c+1))):=
  fun W es c x v h=>Wo Tryz.underlying115 Tryz.underlying3 W es c _ x v rfl h
 have i0:∀W:World,(Instr.mapUpdate 115 (.map (some W.heap.size)) (.int .i64 0) (.int .i64 1)).run Tryz.prog (W.alloc (.map #[] 0))= .ok () (W.alloc (.map #[⟨.int .i64 0,.int .i64 1,0⟩] 1)):=fun W=>h1 W #[] 0 0 _ rfl
 have i1:∀W:World,(Instr.mapUpdate 115 (.map (some W.heap.size)) (.int .i64 1) (.int .i64 2)).run Tryz.prog (W.alloc (.map #[⟨.int .i64 0,.int .i64 1,0⟩] 1))= .ok () (W.alloc (.map #[⟨.int .i64 0,.int .i64 1,0⟩,⟨.int .i64 1,.int .i64 2,1⟩] 2)):=fun W=>h1 W #[⟨.int .i64 0,.int .i64 1,0⟩] 1 1 _ rfl
 have i2:∀W:World,(Instr.mapUpdate 115 (.map (some W.heap.size)) (.int .i64 2) (.int .i64 3)).run Tryz.prog (W.alloc (.map #[⟨.int .i64 0,.int .i64 1,0⟩,⟨.int .i64 1,.int .i64 2,1⟩] 2))= .ok () (W.alloc (.map #[⟨.int .i64 0,.int .i64 1,0⟩,⟨.int .i64 1,.int .i64 2,1⟩,⟨.int .i64 2,.int .i64 3,2⟩] 3)):=fun W=>h1 W #[⟨.int .i64 0,.int .i64 1,0⟩,⟨.int .i64 1,.int .i64 2,1⟩] 2 2 _ rfl
 have i3:∀W:World,(Instr.mapUpdate 115 (.map (some W.heap.size)) (.int .i64 26) (.int .i64 4)).run Tryz.prog (W.alloc (.map #[⟨.int .i64 0,.int .i64 1,0⟩,⟨.int .i64 1,.int .i64 2,1⟩,⟨.int .i64 2,.int .i64 3,2⟩] 3))= .ok () (W.alloc (.map Tk 4)):=fun W=>h1 W #[⟨.int .i64 0,.int .i64 1,0⟩,⟨.int .i64 1,.int .i64 2,1⟩,⟨.int .i64 2,.int .i64 3,2⟩] 3 26 _ rfl
 clear h1;obtain⟨k,b,hk,hl⟩:=Ap3 t;have hl0:=hl (w.alloc (.map Tk 4)) w.heap.size (heap_alloc_new w _);rw [←hk];clear hl hk;cases b with
 |true=>
  go_enter Tryz.func104,Tryz.ntmps104;go_wp2;go_ret;exact⟨rfl,(Below.refl _ _).alloc (Ath _) _⟩
 |false=>
  go_enter Tryz.func104,Tryz.ntmps104;go_wp2;go_ret;exact⟨rfl,(Below.refl _ _).alloc (Ath _) _⟩
def pc(x:P3):List Value:=[Aa Ab x.1,Aa Ab x.2.1,Aa Ab x.2.2]
theorem Jb(x:P3):(pc x).length=3:=rfl
theorem Akk(x:P3):∀u∈pc x,u.oneCell'=true:=by
 intro u hu;simp [pc] at hu;rcases hu with rfl|rfl|rfl <;>rfl
abbrev Xb:=Is pc
abbrev Jf:=Go.Acc.Own pc 3 49
theorem Arj:(Tryz.prog.info? 49).map (fun i=>(i.zero,i.size,i.bytes))=some (some (.agg #[Aa Ab 0,Aa Ab 0,Aa Ab 0]),3,24):=by kernel_rfl
def Ls(w:World)(B b:Nat)(g:Option Nat)(l:List P3):Prop:=∃A n c,Af w b 45 #[.slice A n c]∧Jf w B A n c l∧A.map (·.block)=g
theorem Ls.pure{w w':World}{B b:Nat}{g:Option Nat}{l:List P3}(h:Ls w B b g l)(hb:Below w.heap.size w w'):Ls w' B b g l:=by
 obtain⟨A,n,c,h1,h2,h3⟩:=h;exact⟨A,n,c,h1.pure hb,h2.pure hb,h3⟩
theorem Ls.fr{w w':World}{B b:Nat}{g:Option Nat}{l:List P3}{S:Nat→Prop}(h:Ls w B b g l)(hf:Fr S w w')(h1:¬S b)(h2:∀k,g=some k→¬S k):Ls w' B b g l:=by
 obtain⟨A,n,c,b1,b2,b3⟩:=h;exact⟨A,n,c,b1.fr hf h1,b2.fr hf (fun ad had=>h2 _ (by rw [←b3,had];rfl)),b3⟩
theorem Ls.row{w:World}{B b:Nat}{g:Option Nat}{l:List P3}(h:Ls w B b g l):∀k,g=some k→B≤k∧k<w.heap.size:=by
 obtain⟨A,n,c,_,h2,rfl⟩:=h;intro k hk;cases A with
 |none=>cases hk
 |some ad=>
  injection hk with hk
  subst hk;exact⟨(h2.addr ad rfl).2.1,(h2.addr ad rfl).2.2⟩
def Als(B b:Nat)(g:Option Nat)(l:List P3)(w w':World):Prop:=∃g',Ls w' B b g' l∧Fr (fun k=>k=b∨some k=g) w w'∧(g'=g∨∃k,g'=some k∧w.heap.size≤k)
theorem Apk(W:World)(x y z:Int):Xb (W.alloc (.cells #[Aa Ab x,Aa Ab y,Aa Ab z] 49)) (some ⟨W.heap.size,0,none⟩) 1 [(x,y,z)]:=by
 refine⟨rfl,fun j u hu=>⟨_,_,rfl,?_⟩⟩;rw [Nat.zero_add,(Af.new W _ _).cell j];simpa [pc] using hu
theorem An5(B b:Nat)(g:Option Nat)(x y z:Int)(l:List P3)(w:World)(h:Ls w B b g l)(hxy:x<y)(hlen:l.length≤1073741824)(hB:B≤w.heap.size)(hbB:b<B):
  Calls Tryz.prog 60 #[Aa Ab x,Aa Ab y,Aa Ab z,.pointer (some ⟨b,0,none⟩)] w fun e w'=>e= .returned (.tuple #[])∧Als B b g (l++ [(x,y,z)]) w w':=by
 obtain⟨A,n,c,hb,ho,rfl⟩:=h;rw [ho.1] at hlen;have c0:w.cell? ⟨b,0,none⟩=some (.slice A n c):=hb.cell 0;have HO:=Hd (ho.pure ((Below.refl _ _).alloc (Ath _) (.cells #[Aa Ab x,Aa Ab y,Aa Ab z] 49)));have HB:=Hd (hb.alloc (.cells #[Aa Ab x,Aa Ab y,Aa Ab z] 49));have hne:∀ad,A=some ad→ad.block≠b:=fun ad had=>by have:=(ho.addr ad had).2.1;omega
 have HN:=Hd hne;have HA:=Hd (ho.addr);have hlt:=hb.lt;clear hb ho hne;go_enter Tryz.func60,Tryz.ntmps60;go_wp2_with (at_builtin;refine Dt _ rfl (.tmp 10) (.tmp 15) _ rfl 49 _ 3 24 Tryz.underlying45 Arj rfl (by omega) Jb Akk _ _ _ _ _ rfl HO.o _ _ _ _ rfl (Apk w x y z) (by omega) (by simp;omega) ?_;intro A1 c1 w1 hown1 hfr1 hat1;have B1:=HB.o.fr hfr1 (by rintro⟨ad,h,h'⟩;exact HN.o ad h h'.symm);have d0:w1.cell? ⟨b,0,none⟩=some (.slice A n c):=B1.cell 0;have f0:=B1.frozen 0;have HB1:=Hd B1;have HO1:=Hd hown1;have HF1:=Hd hfr1;clear B1 hown1 hfr1);go_end0;have hset:Fr (fun k=>k=b) w1 (w1.setCell ⟨b,0,none⟩ (.slice A1 (n+1) c1)):=Fr.setCell (S:=fun k=>k=b) (Fr.refl _ _) (fun _=>rfl) _;refine⟨rfl,A1.map (·.block),⟨A1,n+1,c1,by simpa using HB1.o.set_ 0 (.slice A1 (n+1) c1),HO1.o.fr hset ?_,rfl⟩,?_,?_⟩
 ·intro ad had e;have:=(HO1.o.addr ad had).2.1;omega
 ·have e0:Fr (fun k=>k=b∨some k=A.map (·.block)) w (w.alloc (.cells #[Aa Ab x,Aa Ab y,Aa Ab z] 49)):=(Fr.refl _ _).alloc _;have e1:Fr (fun k=>k=b∨some k=A.map (·.block)) (w.alloc (.cells #[Aa Ab x,Aa Ab y,Aa Ab z] 49)) w1:=HF1.o.mono (by
   rintro k hk ⟨ad,h1,rfl⟩;exact .inr (by rw [h1];rfl))
  exact(e0.trans e1 fun _ _ h=>h).trans hset (fun k _ h=> .inl h)
 ·rcases hat1 with h|h
  ·exact .inl h
  ·exact .inr ⟨_,h,by simp⟩
theorem Aqn(B b:Nat)(g:Option Nat)(x y z:Int)(l:List P3)(w:World)(h:Ls w B b g l)(hxy:¬x<y):
  Calls Tryz.prog 60 #[Aa Ab x,Aa Ab y,Aa Ab z,.pointer (some ⟨b,0,none⟩)] w fun e w'=>e= .returned (.tuple #[])∧Als B b g l w w':=by
 have H:=Hd h;clear h;go_enter Tryz.func60,Tryz.ntmps60;go_wp2;go_end0;exact⟨rfl,g,H.o,Fr.refl _ _,.inl rfl⟩
structure Ie where
 B0:Nat
 B2:Nat
 bw:Nat
 bm:Nat
 bl:Nat
 A:Option Addr
 n:Nat
 c:Nat
 l:List UInt8
structure Ie.Ok(E:Ie):Prop where
 hA:∀ad,E.A=some ad→ad.block<E.B0
 l0:E.B0≤E.bl
 l2:E.bl<E.B2
 m0:E.B0≤E.bm
 m2:E.bm<E.B2
 w0:E.B0≤E.bw
 w2:E.bw<E.B2
 lm:E.bl≠E.bm
 lw:E.bl≠E.bw
 mw:E.bm≠E.bw
 hc:E.n≤E.c
 hn:E.n≤4294967296
def Ie.cells(E:Ie)(left:Int):Array Value:=#[.slice E.A E.n E.c,Aa Ab left,.map (some E.bm),.func (.func 60) #[] #[.pointer (some ⟨E.bl,0,none⟩)]]
structure E9(E:Ie)(g:Option Nat)(s:Ao)(w:World):Prop where
 ok:E.Ok
 b:Cw w E.A E.n E.l
 W:Af w E.bw 98 (E.cells s.left)
 M:Ky w E.bm s.had
 O:Ls w E.B2 E.bl g s.o
 sz:E.B2≤w.heap.size
def Ie.Free(E:Ie)(g:Option Nat)(k:Nat):Prop:=k≠E.bl∧k≠E.bm∧k≠E.bw∧g≠some k
structure Dw(E:Ie)(g g':Option Nat)(w w':World):Prop where
 fr:Fr (fun k=>¬E.Free g k) w w'
 keep:∀k,k<w.heap.size→E.Free g k→E.Free g' k
section
variable {E:Ie} {s:Ao} {g g' g'':Option Nat} {w w' w'':World}
theorem Dw.refl(E:Ie)(g:Option Nat)(w:World):Dw E g g w w:=⟨Fr.refl _ _,fun _ _ h=>h⟩
theorem Dw.of_below(hb:Below w.heap.size w w'):Dw E g g w w':=⟨Fr.of_below hb _,fun _ _ h=>h⟩
theorem Dw.trans(h:Dw E g g' w w')(h':Dw E g' g'' w' w''):Dw E g g'' w w'':=
 ⟨h.fr.trans h'.fr (fun k hk hn hf=>hn (h.keep k hk hf)),fun k hk hf=>h'.keep k (Nat.lt_of_lt_of_le hk h.fr.size) (h.keep k hk hf)⟩
theorem Dw.below(h:Dw E g g' w w')(hb:Below w'.heap.size w' w''):Dw E g g' w w'':=h.trans (Dw.of_below hb)
theorem Dw.drew(h:Dw E g g' w w'):Dw E g g' w w'.drew:=h.below ((Below.refl _ _).drew)
theorem Dw.alloc(h:Dw E g g' w w')(o:Obj):Dw E g g' w (w'.alloc o):=h.below ((Below.refl _ _).alloc (Ath _) o)
def Ig(E:Ie)(g:Option Nat)(w:World)(k:Nat)(t:TypeId)(cs:Array Value):Prop:=Af w k t cs∧E.Free g k
theorem Ig.to{k:Nat}{t:TypeId}{cs:Array Value}(h:Ig E g w k t cs)(ht:Dw E g g' w w'):Ig E g' w' k t cs:=⟨h.1.fr ht.fr (fun hn=>hn h.2),ht.keep k h.1.lt h.2⟩
theorem Ig.pure{k:Nat}{t:TypeId}{cs:Array Value}(h:Ig E g w k t cs)(hb:Below w.heap.size w w'):Ig E g w' k t cs:=⟨h.1.pure hb,h.2⟩
theorem Ig.drew{k:Nat}{t:TypeId}{cs:Array Value}(h:Ig E g w k t cs):Ig E g w.drew k t cs:=h
theorem E9.pure(h:E9 E g s w)(hb:Below w.heap.size w w'):E9 E g s w':=⟨h.ok,h.b.pure hb,h.W.pure hb,h.M.pure hb,h.O.pure hb,Nat.le_trans h.sz hb.size⟩
theorem E9.drew(h:E9 E g s w):E9 E g s w.drew:=h.pure ((Below.refl _ _).drew)
theorem E9.alloc(h:E9 E g s w)(o:Obj):E9 E g s (w.alloc o):=h.pure ((Below.refl _ _).alloc (Ath _) o)
theorem E9.len(h:E9 E g s w):E.l.length=E.n:=h.b.1
theorem E9.new(h:E9 E g s w):E.Free g w.heap.size:=by
 have:=h.sz;have:=h.ok.l2;have:=h.ok.m2;have:=h.ok.w2;refine⟨by omega,by omega,by omega,fun e=>?_⟩;have:=(h.O.row _ e).2;omega
theorem E9.lone(h:E9 E g s w)(t:TypeId)(cs:Array Value):Ig E g (w.alloc (.cells cs t)) w.heap.size t cs:=⟨Af.new w t cs,h.new⟩
theorem E9.low(h:E9 E g s w){k:Nat}(hk:k<E.B0):E.Free g k:=by
 have:=h.ok.l0;have:=h.ok.l2;have:=h.ok.m0;have:=h.ok.w0;refine⟨by omega,by omega,by omega,fun e=>?_⟩;have:=(h.O.row _ e).1;omega
theorem Dw.belowB(h:Dw E g g' w w')(hw:E9 E g s w):Below E.B0 w w':=by
 refine h.fr.belowB (fun k hk hn=>hn (hw.low hk)) ?_;have:=hw.sz;have:=hw.ok.l0;have:=hw.ok.l2;omega
theorem E9.cells(h:E9 E g s w):w.cell? ⟨E.bw,0,none⟩=some (.slice E.A E.n E.c)∧w.cell? ⟨E.bw,1,none⟩=some (Aa Ab s.left)∧w.cell? ⟨E.bw,2,none⟩=some (.map (some E.bm))∧
  w.cell? ⟨E.bw,3,none⟩=some (.func (.func 60) #[] #[.pointer (some ⟨E.bl,0,none⟩)]):=⟨h.W.cell 0,h.W.cell 1,h.W.cell 2,h.W.cell 3⟩
theorem Afd{l':List P3}(h:E9 E g s w)(ht:Als E.B2 E.bl g l' w w'):∃g',E9 E g' { s with o:=l'} w'∧Dw E g g' w w':=by
 have ok:=h.ok;obtain⟨g',hO,hf,hg⟩:=ht;have row:=h.O.row;have hk:∀k,k<E.B2→k≠E.bl→¬(k=E.bl∨some k=g):=by
  rintro k h1 h2 (h3|h3)
  ·exact h2 h3
  ·have:=(row k h3.symm).1;omega
 refine⟨g',⟨ok,h.b.fr hf ?_,h.W.fr hf (hk _ ok.w2 (Ne.symm ok.lw)),h.M.fr hf (hk _ ok.m2 (Ne.symm ok.lm)),hO,Nat.le_trans h.sz hf.size⟩,hf.mono ?_,?_⟩
 ·intro ad had;have:=ok.hA ad had;have:=ok.l0;have:=ok.l2;exact hk _ (by omega) (by omega)
 ·rintro k _ (rfl|e) hF
  ·exact hF.1 rfl
  ·exact hF.2.2.2 e.symm
 ·intro k hk' hF;refine⟨hF.1,hF.2.1,hF.2.2.1,?_⟩;rcases hg with rfl|⟨j,rfl,hj⟩
  ·exact hF.2.2.2
  ·intro e;injection e with e
   omega
theorem Gl(a b c:Int)(h:E9 E g s w)(hs:s.o.length≤1073741824):
  Calls Tryz.prog 60 #[Aa Ab a,Aa Ab b,Aa Ab c,.pointer (some ⟨E.bl,0,none⟩)] w fun e w'=>e= .returned (.tuple #[])∧∃g',E9 E g' (s.tell a b c) w'∧Dw E g g' w w':=by
 have hB:E.B2≤w.heap.size:=h.sz;by_cases hab:a<b
 ·refine(An5 E.B2 E.bl g a b c s.o w h.O hab hs h.sz h.ok.l2).mono ?_;rintro e w' ⟨rfl,ht⟩;have e:s.tell a b c={ s with o:=s.o++ [(a,b,c)]}:=if_pos hab;rw [e];exact⟨rfl,Afd h ht⟩
 ·refine(Aqn E.B2 E.bl g a b c s.o w h.O hab).mono ?_;rintro e w' ⟨rfl,ht⟩;have e:s.tell a b c=s:=if_neg hab;rw [e];exact⟨rfl,Afd h ht⟩
end
def T3(E:Ie)(g:Option Nat)(w:World)(y:Ao×Int)(e:Ending)(w':World):Prop:=e= .returned (Aa Ab y.2)∧∃g',E9 E g' y.1 w'∧Dw E g g' w w'
theorem Ay{w:World}{p:Addr}{u:Value}(h:w.cell? p=some u):w.drew.cell? p=some u:=h
theorem Ald(A:Option Addr)(n c:Nat)(p q t v a m er:Int)(l:List UInt8)(w:World)(h:Cw w A n l)(hc:n≤c)(hn:n≤1099511627776)(h0:Cm l p q t v [4,5,25]=a)(h1:((D5 l p q t v [4,5,25]).length:Int)=m)(h2:Dc l p q t v [4,5,25]=er):
  Calls Tryz.prog 187 #[.slice A n c,.agg #[Aa Ab p,Aa Ab q,Aa Ab t,Aa Ab v]] w fun e w'=>e= .returned (.tuple #[Aa Ab a,Aa Ab m,Aa Ab er])∧Below w.heap.size w w':=by
 subst h0 h1 h2;exact Ag7 A n c p q t v l w h hc hn
theorem Ach(s:Ao)(a b c:Int):(s.tell a b c).o.length≤s.o.length+1:=by
 unfold Ao.tell;by_cases h:a<b
 ·rw [if_pos h];simp
 ·rw [if_neg h];omega
theorem Ut{l:List UInt8}{p q t v:Int}(h:Dc l p q t v [4,5,25]=0):0≤Cm l p q t v [4,5,25]∧Cm l p q t v [4,5,25]+(D5 l p q t v [4,5,25]).length≤l.length∧0≤v∧v≤8∧Bm l.length p q t v=0:=by
 have hm:Bm l.length p q t v=0:=by
  by_cases g:Bm l.length p q t v=0
  ·exact g
  ·unfold Dc at h;rw [if_pos g] at h;exact absurd h g
 obtain⟨a,h1,_,h3⟩:=Amm h;have hv:=Ck.1 (Cv.1 (D7.1 hm).1).2.2;refine⟨by omega,by omega,by omega,by omega,hm⟩
theorem N0(E:Ie)(g:Option Nat)(s:Ao)(p q t v:Int)(w:World)(h:E9 E g s w)(hs:s.o.length≤1000000000):
  Calls Tryz.prog 105 #[.pointer (some ⟨E.bw,0,none⟩),.agg #[Aa Ab p,Aa Ab q,Aa Ab t,Aa Ab v]] w (T3 E g w (C7 E.l ⟨p,q,t,v⟩ s)):=by
 have HC:=Hd (h.alloc (.cells #[Aa Ab p,Aa Ab q,Aa Ab t,Aa Ab v] 75));have HX:=Hd (h.lone 75 #[Aa Ab p,Aa Ab q,Aa Ab t,Aa Ab v]);have HB:=Hd ((Dw.refl E g w).alloc (.cells #[Aa Ab p,Aa Ab q,Aa Ab t,Aa Ab v] 75));obtain⟨a,ha⟩:∃a,Cm E.l p q t v [4,5,25]=a:=⟨_,rfl⟩;obtain⟨m,hm⟩:∃m:Int,((D5 E.l p q t v [4,5,25]).length:Int)=m:=⟨_,rfl⟩;obtain⟨er,he⟩:∃a,Dc E.l p q t v [4,5,25]=a:=⟨_,rfl⟩;have HAA:=Hd ha;have HMM:=Hd hm;have HEE:=Hd he;have hcc:=h.ok.hc;have hnn:=h.ok.hn;have hlen:=h.len;clear h ha hm he;obtain⟨c0,c1,c2,c3⟩:=HC.o.cells;have x0:=Az HX.o.1;have x1:=Ax HX.o.1;have x2:=Aw HX.o.1;have x3:=A6 HX.o.1;go_enter Tryz.func105,Tryz.ntmps105;go_wp2_with fail;go_region_held3 (fun w'=>w'.cell? ⟨E.bw,0,none⟩=some (.slice E.A E.n E.c)∧w'.cell? ⟨E.bw,3,none⟩=some (.func (.func 60) #[] #[.pointer (some ⟨E.bl,0,none⟩)])∧(w'.cell? ⟨w.heap.size,0,none⟩=some (Aa Ab p)∧w'.cell? ⟨w.heap.size,1,none⟩=some (Aa Ab q)∧w'.cell? ⟨w.heap.size,2,none⟩=some (Aa Ab t)∧w'.cell? ⟨w.heap.size,3,none⟩=some (Aa Ab v))) (first|with_reducible exact⟨c0,c3,x0,x1,x2,x3⟩|with_reducible exact⟨Ay c0,Ay c3,Ay x0,Ay x1,Ay x2,Ay x3⟩) (first|(go_at_call 187;(with_reducible refine(Ald E.A E.n E.c p q t v a m er E.l _ HC.o.drew.b hcc (by omega) HAA.o HMM.o HEE.o).mono ?_);rintro e w1 ⟨rfl,hb1⟩;replace HB:=Hd (HB.o.drew.below hb1);replace HC:=Hd (HC.o.drew.pure hb1);replace HX:=Hd (HX.o.drew.pure hb1);clear c0 c1 c2 c3 x0 x1 x2 x3;clear hb1;obtain⟨c0,c1,c2,c3⟩:=HC.o.cells;have x0:=Az HX.o.1;have x1:=Ax HX.o.1;have x2:=Aw HX.o.1;have x3:=A6 HX.o.1));by_cases he:er=0
 ·subst he;obtain⟨b0,b1,b2,b3,_⟩:=Ut HEE.o;rw [HAA.o] at b0 b1;have hm0:0≤m:=by have:=HMM.o;omega
  have hmn:a+m≤4294967296:=by have:=HMM.o;omega
  clear b1 hlen;by_cases h4:t=4
  ·subst h4;go_wp2_with (go_at_call 60;(with_reducible refine(Gl a (a+m+1) 9 HC.o (by omega)).mono ?_);rintro e w2 ⟨rfl,g2,hC2,hT2⟩;replace HB:=Hd (HB.o.trans hT2);replace HX:=Hd (HX.o.to hT2);replace HC:=Hd hC2;clear c0 c1 c2 c3 x0 x1 x2 x3;clear hC2 hT2;obtain⟨c0,c1,c2,c3⟩:=HC.o.cells;have x0:=Az HX.o.1;have x1:=Ax HX.o.1;have x2:=Aw HX.o.1;have x3:=A6 HX.o.1);go_ret;have e:C7 E.l ⟨p,q,4,v⟩ s=(s.tell a (a+m+1) 9,0):=by
    unfold C7;rw [HEE.o,HAA.o,HMM.o];rfl
   rw [e];exact⟨rfl,_,HC.o,HB.o⟩
  ·have e4:(t==4)=false:=beq_eq_false_iff_ne.mpr h4;have s1:=Ach s (a-v) a 6;have hw:IntKind.i64.wrap (a-v)=a-v:=IntWalk.i64_in _ (by omega);go_wp2_with fail;go_region_held3 (fun w'=>w'.cell? ⟨E.bw,0,none⟩=some (.slice E.A E.n E.c)∧w'.cell? ⟨E.bw,3,none⟩=some (.func (.func 60) #[] #[.pointer (some ⟨E.bl,0,none⟩)])∧(w'.cell? ⟨w.heap.size,0,none⟩=some (Aa Ab p)∧w'.cell? ⟨w.heap.size,1,none⟩=some (Aa Ab q)∧w'.cell? ⟨w.heap.size,2,none⟩=some (Aa Ab t)∧w'.cell? ⟨w.heap.size,3,none⟩=some (Aa Ab v))) (first|with_reducible exact⟨c0,c3,x0,x1,x2,x3⟩|with_reducible exact⟨Ay c0,Ay c3,Ay x0,Ay x1,Ay x2,Ay x3⟩) (first|(go_at_call 60;(with_reducible refine(Gl (a-v) a 6 HC.o.drew (by omega)).mono ?_);rintro e w2 ⟨rfl,g2,hC2,hT2⟩;replace HB:=Hd (HB.o.drew.trans hT2);replace HX:=Hd (HX.o.drew.to hT2);replace HC:=Hd hC2;clear c0 c1 c2 c3 x0 x1 x2 x3;clear hC2 hT2;obtain⟨c0,c1,c2,c3⟩:=HC.o.cells;have x0:=Az HX.o.1;have x1:=Ax HX.o.1;have x2:=Aw HX.o.1;have x3:=A6 HX.o.1));by_cases h5:t=5
   ·subst h5;go_wp2_with (go_at_call 60;(with_reducible refine(Gl a (a+m+1) 10 HC.o (by omega)).mono ?_);rintro e w2 ⟨rfl,g2,hC2,hT2⟩;replace HB:=Hd (HB.o.trans hT2);replace HX:=Hd (HX.o.to hT2);replace HC:=Hd hC2;clear c0 c1 c2 c3 x0 x1 x2 x3;clear hC2 hT2;obtain⟨c0,c1,c2,c3⟩:=HC.o.cells;have x0:=Az HX.o.1;have x1:=Ax HX.o.1;have x2:=Aw HX.o.1;have x3:=A6 HX.o.1);go_ret;have e:C7 E.l ⟨p,q,5,v⟩ s=((s.tell (a-v) a 6).tell a (a+m+1) 10,0):=by
     unfold C7;rw [HEE.o,HAA.o,HMM.o];rfl
    rw [e];exact⟨rfl,_,HC.o,HB.o⟩
   ·have e5:(t==5)=false:=beq_eq_false_iff_ne.mpr h5;go_wp2_with (go_at_call 60;(with_reducible refine(Gl a (a+m) 11 HC.o (by omega)).mono ?_);rintro e w2 ⟨rfl,g2,hC2,hT2⟩;replace HB:=Hd (HB.o.trans hT2);replace HX:=Hd (HX.o.to hT2);replace HC:=Hd hC2;clear c0 c1 c2 c3 x0 x1 x2 x3;clear hC2 hT2;obtain⟨c0,c1,c2,c3⟩:=HC.o.cells;have x0:=Az HX.o.1;have x1:=Ax HX.o.1;have x2:=Aw HX.o.1;have x3:=A6 HX.o.1);go_ret;have e:C7 E.l ⟨p,q,t,v⟩ s=((s.tell (a-v) a 6).tell a (a+m) 11,0):=by
     unfold C7;rw [HEE.o,HAA.o,HMM.o];simp [h4,h5]
    rw [e];exact⟨rfl,_,HC.o,HB.o⟩
 ·have hne:(er != 0)=true:=by simpa using he
  have e:C7 E.l ⟨p,q,t,v⟩ s=(s,er):=by
   unfold C7;rw [HEE.o,if_pos he]
  have HR:=Hd e;clear e he;go_wp2_with fail;go_ret;rw [HR.o];exact⟨rfl,_,HC.o,HB.o⟩
def Ao.size(s:Ao):Nat:=s.o.length+8*s.left.toNat
theorem Hj(s:Ao)(a b c:Int):(s.tell a b c).left=s.left:=by unfold Ao.tell;split <;>rfl
theorem Jm(s:Ao)(a b c:Int):(s.tell a b c).had=s.had:=by unfold Ao.tell;split <;>rfl
theorem Rr(s:Ao)(a b c:Int):(s.tell a b c).size≤s.size+1:=by
 unfold Ao.size;rw [Hj];have:=Ach s a b c;omega
def Et(k:Nat)(s s':Ao):Prop:=s'.left≤s.left∧s'.size≤s.size+k
theorem Et.refl(s:Ao):Et 0 s s:=⟨Int.le_refl _,Ath _⟩
theorem Et.mono{k j:Nat}{s s':Ao}(h:Et k s s')(hk:k≤j):Et j s s':=⟨h.1,by have:=h.2;omega⟩
theorem Et.trans{k j:Nat}{s s' s'':Ao}(h:Et k s s')(h':Et j s' s''):Et (k+j) s s'':=⟨Int.le_trans h'.1 h.1,by have:=h.2;have:=h'.2;omega⟩
theorem Gr(s:Ao)(a b c:Int):Et 1 s (s.tell a b c):=⟨by rw [Hj];exact Int.le_refl _,Rr s a b c⟩
def Qf(go:Rq→Ao→Ao×Int):Prop:=∀r s,Et 0 s (go r s).1∧((go r s).2=0→(go r s).1.size+4≤s.size)
section
variable {l:List UInt8} {go:Rq→Ao→Ao×Int} (r:Rq)
theorem Ak9(s:Ao):Et 2 s (C7 l r s).1:=by
 unfold C7;split
 ·exact(Et.refl s).mono (by omega)
 ·split
  ·exact(Gr _ _ _ _).mono (by omega)
  ·split
   ·exact(Gr _ _ _ _).trans (Gr _ _ _ _)
   ·exact(Gr _ _ _ _).trans (Gr _ _ _ _)
theorem Afs(s:Ao):Et 2 s (C6 l r s).1:=by
 unfold C6;split
 ·exact(Gr _ _ _ _).mono (by omega)
 ·exact(Et.refl s).mono (by omega)
theorem Ajo(hgo:Qf go)(s:Ao):Et 0 s (Fc l go r s).1:=by
 unfold Fc;split
 ·exact Et.refl s
 ·split
  ·exact(hgo _ _).1
  ·rename_i h;have h:=(hgo (C9 l r) s).2 (Decidable.of_not_not h);have h1:=(hgo (C9 l r) s).1;have h2:=Gr (go (C9 l r) s).1 (lsFrom l r.p r.q r.t r.v+r.v) (lsFrom l r.p r.q r.t r.v+2*r.v) 7;exact⟨Int.le_trans h2.1 h1.1,by have:=h2.2;simp only at this ⊢;omega⟩
theorem Tw(i:Nat)(s:Ao):Et 1 s (Dl l r i s):=by
 unfold Dl;split
 ·exact Gr _ _ _ _
 ·exact(Et.refl s).mono (by omega)
theorem Abf(s:Ao):Et 1 s (Gp l r s):=by
 unfold Gp;split
 ·exact Gr _ _ _ _
 ·exact(Et.refl s).mono (by omega)
theorem Uo(hgo:Qf go):∀(k i:Nat) (s:Ao),Et 1 s (Cj l go r k i s).1
 |0,i,s=>(Et.refl s).mono (by omega)
 |k+1,i,s=>by
  unfold Cj;split
  ·exact Tw r i s
  ·have ht:=Tw (l:=l) r i s;have hg:=hgo (Ed l r i) (Dl l r i s);split
   ·exact ht.trans hg.1
   ·rename_i h;have h:=hg.2 (Decidable.of_not_not h);have he:=Uo hgo k (i+1) (go (Ed l r i) (Dl l r i s)).1;exact⟨Int.le_trans he.1 (Int.le_trans hg.1.1 ht.1),by have:=he.2;have:=ht.2;omega⟩
theorem Q2(hgo:Qf go)(s:Ao):Et 0 s (Cs l go r s).1:=by
 unfold Cs;split
 ·exact Ajo r hgo s
 ·exact Et.refl s
theorem Ajz(hgo:Qf go)(s:Ao):Et 2 s (Dy l go r s).1:=by
 unfold Dy;split
 ·exact(Et.refl s).mono (by omega)
 ·split
  ·exact(Q2 r hgo s).mono (by omega)
  ·exact((Q2 r hgo s).trans (Abf r _)).trans (Uo r hgo _ _ _)
theorem Aiw(hgo:Qf go)(s:Ao):Et 2 s (Cy l go r s).1:=by
 unfold Cy;split
 ·exact Ak9 r s
 ·split
  ·exact Afs r s
  ·exact Ajz r hgo s
end
theorem Ahe(r:Rq)(s:Ao)(h:¬s.left<1):(Bq r s).left≤s.left∧(Bq r s).size+7≤s.size:=by
 unfold Bq;have h1:=Rr s.burn r.p (r.p+r.q) (E6 r.t);rw [Hj];have e:s.burn.size+8=s.size:=by unfold Ao.size Ao.burn;simp only;omega
 exact⟨by unfold Ao.burn;simp only;omega,by omega⟩
theorem Qn(l:List UInt8):∀d,Qf (Bl l d)
 |0,r,s=>⟨Et.refl s,fun h=>by cases h⟩
 |d+1,r,s=>by
  unfold Bl;split
  ·exact⟨Et.refl s,fun h=>by cases h⟩
  ·rename_i hl;obtain⟨h1,h2⟩:=Ahe r s hl;split
   ·exact⟨⟨h1,by simp only;omega⟩,fun _=>by simp only;omega⟩
   ·split
    ·exact⟨⟨h1,by simp only;omega⟩,fun _=>by simp only;omega⟩
    ·have hd:=Aiw (l:=l) r (Qn l d) ((Bq r s).see (Ea l r));have e1:((Bq r s).see (Ea l r)).left=(Bq r s).left:=rfl;have e2:((Bq r s).see (Ea l r)).size=(Bq r s).size:=rfl;rw [Et,e1,e2] at hd;exact⟨⟨Int.le_trans hd.1 h1,by have:=hd.2;omega⟩,fun _=>by have:=hd.2;omega⟩
end Go.Proofs.YtgbjodnegkbfoaaGreat
namespace Go.Proofs.YtgbjodnegkbfoaaGreat
open Go.Acc
structure G4(L:List UInt8)(s:Nat)(vs:List Bv)(v:Bv):Prop where
 w:Av (v.w:Int)=true
 typ:Oc (v.t:Int)=true
 md:(s+v.n) % v.w=0
 ah:aheadT (v.t:Int)*v.w≤s+v.n
 n1:0<Ei (v.t:Int)→Ei (v.t:Int)=(vs.length:Int)
 n2:¬0<Ei (v.t:Int)→loadU L (((s+v.n:Nat):Int)-(v.w:Int)) (v.w:Int)=vs.length
 sp:s+v.n+vs.length*(v.w+tgs (v.t:Int))≤L.length
 tags:Bo (v.t:Int)=true→At L (s+v.n+vs.length*v.w) (vs.map (C3 v.w))
 el:∀(i:Nat) y,vs[i]?=some y→At L (s+v.n+i*v.w) (Ai v.w (B9 v.w (v.n+i*v.w) y))∧Zh v.w (v.n+i*v.w) y
theorem X4{w n:Nat}(hw:Av (w:Int)=true)(b:List UInt8)(k:Nat)(h:n=(Ah w b).length+k*w):n % w=0:=by
 have:=(Hf hw b).2.1;rw [h,Nat.add_mul_mod_self_right];exact this
theorem Cd.mod{l:List UInt8}{t:Nat}{len tags:Bool}{vs:List Bv}{v:Bv}(h:Cd l t len tags vs v):v.n % v.w=0:=by
 have hw:=h.width.2;obtain⟨b,m,rfl,rfl,_⟩:=h;obtain⟨w,hwd⟩:∃w,B3 b.length (if len=true then 1 else 0) none vs=w:=⟨_,rfl⟩;simp only [Bc,hwd] at hw⊢;refine X4 hw b (if len=true then 1 else 0) ?_;rw [Atj];cases len <;>simp [Aj]
theorem F2.mod{l:List UInt8}{k:Bv}{vs:List Bv}{v:Bv}(h:F2 l k vs v):v.n % v.w=0:=by
 have hw:=h.width.2;obtain⟨b,m,rfl,rfl,_⟩:=h;obtain⟨w,hwd⟩:∃w,B3 b.length 3 (some k) vs=w:=⟨_,rfl⟩;simp only [Ds,hwd] at hw⊢;refine X4 hw b 3 ?_;simp only [Atj,Aj];omega
theorem Rf{s n w:Nat}(hw:Av (w:Int)=true)(hs:s % 8=0)(h:n % w=0):(s+n) % w=0:=by
 rcases Cc.1 hw with rfl|rfl|rfl|rfl <;>omega
theorem Pf{L:List UInt8}{a w u:Nat}(hw:Av (w:Int)=true)(h:At L a (Ai w u))(hu:u<2^(8*w)):loadU L (a:Int) (w:Int)=u:=by
 rw [h.load hw,Hy,Nat.mod_eq_of_lt hu]
theorem Aco:∀T∈ [9,10,11,12,14,36,16,17,19,20,22,23],Oc (T:Nat)=true∧An (T:Nat)=false:=by decide
theorem Aqu:∀T∈ [10,11,12,14,36],Ei ((T:Nat):Int)=0∧aheadT ((T:Nat):Int)=1:=by decide
theorem Ar9:∀T∈ [16,17,19,20,22,23],aheadT ((T:Nat):Int)=0∧tgs ((T:Nat):Int)=0∧Bo ((T:Nat):Int)=false:=by decide
theorem Acp:∀T∈ [11,12,14,36],tgs ((T:Nat):Int)=0∧Bo ((T:Nat):Int)=false:=by decide
theorem F0{l:List UInt8}{T:Nat}{tags:Bool}{vs:List Bv}{v:Bv}(h:Cd l T true tags vs v)(hb:l.length<2^32)(x:List UInt8)(hx:x.length % 8=0)(hT:(T=10∧tags=true)∨((T=11∨T=12∨T=14∨T=36)∧tags=false)):
  G4 (x++l) x.length vs v:=by
 obtain⟨ht,hw⟩:=h.width;have hm:=h.mod;have hf:=h.facts hb x;obtain⟨c,hc,ha,hl⟩:=hf.len rfl;have h5:T∈ [10,11,12,14,36]:=by simp;omega
 obtain⟨m1,m2⟩:=Aqu T h5;have hle:vs.length*v.w+vs.length*tgs (v.t:Int)≤vs.length*v.w+(if tags=true then vs.length else 0):=by
  rw [ht];rcases hT with⟨rfl,rfl⟩|⟨hT,rfl⟩
  ·have e:tgs ((10:Nat):Int)=1:=by decide
   rw [e];simp
  ·have:=(Acp T (by simp;omega)).1;rw [this];simp
 refine⟨hw,?_,Rf hw hx hm,?_,?_,?_,?_,?_,?_⟩
 ·rw [ht];exact(Aco T (by simp;omega)).1
 ·rw [ht,m2,hc];omega
 ·rw [ht,m1];intro h0;omega
 ·intro _;have e:((x.length+v.n:Nat):Int)-(v.w:Int)=((x.length+c:Nat):Int):=by omega
  rw [e];exact Pf hw ha hl
 ·rw [Nat.mul_add];have h1:=hf.le;cases tags with
  |false=>simp only [Bool.false_eq_true,if_false] at hle;omega
  |true=>
   have h2:=(hf.tags rfl).le;rw [Atq] at h2;simp only [if_true] at hle;omega
 ·rw [ht];rcases hT with⟨rfl,rfl⟩|⟨hT,rfl⟩
  ·intro _;have:=hf.tags rfl
   rwa [←Nat.add_assoc] at this
  ·rw [(Acp T (by simp;omega)).2];intro h;cases h
 ·intro i y hy;obtain⟨h1,h2⟩:=hf.el i y hy;rw [←Nat.add_assoc] at h1;exact⟨h1,h2⟩
theorem O7{l:List UInt8}{T:Nat}{vs:List Bv}{v:Bv}(h:Cd l T false false vs v)(hb:l.length<2^32)(x:List UInt8)(hx:x.length % 8=0)(hT:T=16∨T=17∨T=19∨T=20∨T=22∨T=23)(hn:Ei (T:Int)=(vs.length:Int)):
  G4 (x++l) x.length vs v:=by
 obtain⟨ht,hw⟩:=h.width;have hm:=h.mod;have hf:=h.facts hb x;have h5:T∈ [16,17,19,20,22,23]:=by simp;omega
 obtain⟨m1,m2,m3⟩:=Ar9 T h5;refine⟨hw,?_,Rf hw hx hm,?_,?_,?_,?_,?_,?_⟩
 ·rw [ht];exact(Aco T (by simp;omega)).1
 ·rw [ht,m1];omega
 ·rw [ht];intro _;exact hn
 ·rw [ht];intro h0;have hp:0<Ei (T:Int):=by
   rcases hT with rfl|rfl|rfl|rfl|rfl|rfl <;>decide
  exact absurd hp h0
 ·rw [ht,m2,Nat.add_zero,Nat.add_assoc];exact hf.le
 ·rw [ht,m3];intro h;cases h
 ·intro i y hy;obtain⟨h1,h2⟩:=hf.el i y hy;rw [←Nat.add_assoc] at h1;exact⟨h1,h2⟩
theorem Abk{l:List UInt8}{k:Bv}{vs:List Bv}{v:Bv}(h:F2 l k vs v)(hk:inl k.t=false)(hb:l.length<2^32)(x:List UInt8)(hx:x.length % 8=0):G4 (x++l) x.length vs v:=by
 obtain⟨ht,hw⟩:=h.width;have hm:=h.mod;have hf:=h.facts hk hb x;obtain⟨c,hc,_,_,_,_,ha,hl⟩:=hf.head;have m2:aheadT (9:Int)=3:=by decide
 have m1:Ei (9:Int)=0:=by decide
 have m3:tgs (9:Int)=1:=by decide
 refine⟨hw,?_,Rf hw hx hm,?_,?_,?_,?_,?_,?_⟩
 ·rw [ht];decide
 ·rw [ht];show aheadT (9:Int)*v.w≤_;rw [m2,hc];omega
 ·rw [ht];show 0<Ei (9:Int)→Ei (9:Int)=_;rw [m1];intro h0;omega
 ·intro _;have e:((x.length+v.n:Nat):Int)-(v.w:Int)=((x.length+(c+2*v.w):Nat):Int):=by omega
  rw [e];exact Pf hw ha hl
 ·rw [ht];show x.length+v.n+vs.length*(v.w+tgs (9:Int))≤_;rw [m3,Nat.mul_add];have h1:=hf.le;have h2:=hf.tags.le;rw [Atq] at h2;omega
 ·intro _;have:=hf.tags
  rwa [←Nat.add_assoc] at this
 ·intro i y hy;obtain⟨h1,h2⟩:=hf.el i y hy;rw [←Nat.add_assoc] at h1;exact⟨h1,h2⟩
structure J7(L:List UInt8)(s:Nat)(v:Bv)(p q:Int):Prop where
 may:Bm L.length p q (v.t:Int) (v.w:Int)=0
 tgE:Bh L p q (v.t:Int) (v.w:Int)=0
 tg:Bg L p q (v.t:Int) (v.w:Int)=((s+v.n:Nat):Int)
theorem Mf{L:List UInt8}{s:Nat}{vs:List Bv}{v:Bv}{p q:Int}(h:G4 L s vs v)(r:J7 L s v p q):
  Bw L p q (v.t:Int) (v.w:Int)=0∧lsLen L p q (v.t:Int) (v.w:Int)=vs.length∧lsAt L p q (v.t:Int) (v.w:Int)=s+v.n:=by
 have hN:J0 L p q (v.t:Int) (v.w:Int)=vs.length:=by
  unfold J0;by_cases hm:0<Ei (v.t:Int)
  ·rw [if_pos hm,h.n1 hm];rfl
  ·rw [if_neg hm,r.tg];exact h.n2 hm
 have hE:Bw L p q (v.t:Int) (v.w:Int)=0:=by
  unfold Bw;rw [r.may,r.tgE,r.tg,h.typ,hN];have h1:=h.md;have h2:=h.ah;have h3:=h.sp;unfold Lo;rw [if_neg (by simp),if_neg (by simp),if_neg (by simp),if_neg (by omega),Ats,Ats,if_neg (by omega),if_neg (by omega)]
 refine⟨hE,?_,?_⟩
 ·unfold lsLen;rw [if_pos hE,hN]
 ·unfold lsAt;rw [if_pos hE,r.tg];rfl
theorem Abh{L:List UInt8}{s:Nat}{vs:List Bv}{v:Bv}{p q:Int}(h:G4 L s vs v)(r:J7 L s v p q){i:Nat}{y:Bv}(hy:vs[i]?=some y)(hl:Bo (v.t:Int)=true→Be (y.t:Int)=true∧Av (y.w:Int)=true):
  Ez L p q (v.t:Int) (v.w:Int) (i:Int)=0∧I8 L p q (v.t:Int) (v.w:Int) (i:Int)=((s+v.n+i*v.w:Nat):Int)∧I9 L p q (v.t:Int) (v.w:Int) (i:Int)=(v.w:Int)∧
   Jr L p q (v.t:Int) (v.w:Int) (i:Int)=(if Bo (v.t:Int)=true then(y.t:Int) else F4 (v.t:Int))∧Js L p q (v.t:Int) (v.w:Int) (i:Int)=(if Bo (v.t:Int)=true then(ownW v.w y:Int) else(v.w:Int)):=by
 obtain⟨e1,e2,e3⟩:=Mf h r;have hi:=(List.getElem?_eq_some_iff.1 hy).1;have htag:Bo (v.t:Int)=true→Lv L p q (v.t:Int) (v.w:Int) (i:Int)=C3 v.w y:=by
  intro ht;have ha:=h.tags ht;unfold Lv;rw [e3,e2,Ats,Ats,List.getD_eq_getElem?_getD,ha.get (by simpa using hi),List.getElem?_map,hy];rfl
 have hun:Bo (v.t:Int)=true→Ly (C3 v.w y)=(y.t:Int)∧Lz (C3 v.w y)=(ownW v.w y:Int)∧Hl (C3 v.w y)=0:=by
  intro ht;obtain⟨g1,g2⟩:=hl ht;have how:Av (ownW v.w y:Int)=true:=by
   unfold ownW;split
   ·exact h.w
   ·exact g2
  exact Ak6 y.t (ownW v.w y) g1 how
 have hE:Ez L p q (v.t:Int) (v.w:Int) (i:Int)=0:=by
  unfold Ez;rw [e1,e2,if_neg (by simp),if_neg (by omega)];by_cases ht:Bo (v.t:Int)=true
  ·rw [if_pos ht,htag ht];exact(hun ht).2.2
  ·rw [if_neg ht]
 refine⟨hE,?_,?_,?_,?_⟩
 ·unfold I8;rw [if_pos hE,e3,Ats,Ats];omega
 ·unfold I9;rw [if_pos hE]
 ·unfold Jr;rw [if_pos hE];by_cases ht:Bo (v.t:Int)=true
  ·rw [if_pos ht,if_pos ht,htag ht];exact(hun ht).1
  ·rw [if_neg ht,if_neg ht]
 ·unfold Js;rw [if_pos hE];by_cases ht:Bo (v.t:Int)=true
  ·rw [if_pos ht,if_pos ht,htag ht];exact(hun ht).2.1
  ·rw [if_neg ht,if_neg ht]
theorem Pk{n:Nat}(h:n=2∨n=3∨n=4):(Ei ((10+3*n:Nat):Int)=(n:Int)∧Ei ((11+3*n:Nat):Int)=(n:Int))∧(Bo ((10+3*n:Nat):Int)=false∧Cg (F4 ((10+3*n:Nat):Int))=3)∧(Bo ((11+3*n:Nat):Int)=false∧Cg (F4 ((11+3*n:Nat):Int))=4):=by
 rcases h with rfl|rfl|rfl <;>decide
theorem Ak2{t:Tr}(h:Ff t):(∀c∈(Aq t).l,Rx c)∧(∀c∈(Aq t).l,As (Aq t).k=0∨c.k=As (Aq t).k)∧(Aq t).l.length=t.l.length:=by
 cases h with
 |mk h1 h2 h3 h4 hl=>
  rename_i k n u s ks l;simp only [Dv,Bool.and_eq_true,decide_eq_true_eq] at h1;obtain⟨⟨⟨_,glen⟩,_⟩,gp⟩:=h1;rw [Aq];by_cases hk:k=17
  ·rw [if_pos hk];have hp:=D8 (ks.zip (Bz l));have glen:ks.length=l.length:=glen hk;have hll:(Bz l).length=l.length:=by rw [Ca,Atq]
   refine⟨fun c hc=>?_,fun c _=> .inl ?_,?_⟩
   ·obtain⟨y,hy,rfl⟩:=List.mem_map.1 hc;have hy2:=(List.of_mem_zip (hp.mem_iff.1 hy)).2;rw [Ca] at hy2;obtain⟨z,hz,e⟩:=List.mem_map.1 hy2;rw [←e];exact Na (hl z hz)
   ·show As k=0;rw [hk];rfl
   ·show(List.map (·.2) (Sb (ks.zip (Bz l)))).length=l.length;rw [Atq,hp.length_eq,List.length_zip];omega
  ·rw [if_neg hk];refine⟨fun c hc=>?_,fun c hc=>?_,?_⟩
   ·have hc:c∈Bz l:=hc;rw [Ca] at hc;obtain⟨z,hz,e⟩:=List.mem_map.1 hc;rw [←e];exact Na (hl z hz)
   ·have hc:c∈Bz l:=hc;rw [Ca] at hc;obtain⟨z,hz,e⟩:=List.mem_map.1 hc;rw [←e,Aca];exact of_decide_eq_true (List.all_eq_true.1 gp z hz)
   ·show(Bz l).length=l.length;rw [Ca,Atq]
end Go.Proofs.YtgbjodnegkbfoaaGreat
namespace Go.Proofs.YtgbjodnegkbfoaaGreat
open Go.RowKit Go.Acc
theorem Ass{w:Nat}{n:Int}(hw:Av (w:Int)=true)(h:bWidthI n≤w)(h64: -9223372036854775808≤n∧n≤9223372036854775807):sx w (bits n % 2^(8*w))=n:=by
 unfold sx bits;unfold bWidthI at h;rcases C8 hw with rfl|rfl|rfl|rfl
 ·split at h
  ·split <;>simp at* <;>omega
  ·exfalso;(repeat' split at h) <;>omega
 ·split at h
  ·split <;>simp at* <;>omega
  ·split at h
   ·split <;>simp at* <;>omega
   ·exfalso;(repeat' split at h) <;>omega
 ·split at h
  ·split <;>simp at* <;>omega
  ·split at h
   ·split <;>simp at* <;>omega
   ·split at h
    ·split <;>simp at* <;>omega
    ·omega
 ·split <;>simp at* <;>omega
theorem Aj4{w u:Nat}(hw:Av (w:Int)=true)(h:bWidth u≤w)(hu:u<18446744073709551616):u % 2^(8*w)=u:=by
 refine Nat.mod_eq_of_lt ?_;exact E4 hw hu h
end Go.Proofs.YtgbjodnegkbfoaaGreat
namespace Go.Proofs.YtgbjodnegkbfoaaGreat
open Go.Acc
theorem Apf{L:List UInt8}{a:Int}{w:Nat}{t:Int}(ht:Nl t=true)(hi:An t=true)(hm:Bm L.length a w t w=0):Dd L a w t w=0∧Fm L a w t w=a∧Fy L a w t w=w:=by
 have hp:Dd L a w t w=0:=by
  unfold Dd;rw [if_neg (by rw [hm];decide),if_neg (by rw [ht];decide),if_pos hi]
 refine⟨hp,?_,?_⟩
 ·unfold Fm;rw [if_pos hp,if_pos hi]
 ·unfold Fy;rw [if_pos hp,if_pos hi]
structure Ci(L:List UInt8)(z w:Nat)(v:Bv):Prop where
 sw:Av (w:Int)=true
 at_:At L z (Ai w (B9 w z v))
 el:Zh w z v
theorem Ci.le{L:List UInt8}{z w:Nat}{v:Bv}(h:Ci L z w v):z+w≤L.length:=by
 have:=h.at_.le
 rwa [Aj] at this
theorem Ci.may{L:List UInt8}{z w:Nat}{v:Bv}(h:Ci L z w v){t:Int}{y:Int}(ht:Be t=true)(hy:Av y=true):Bm L.length (z:Int) (w:Int) t y=0:=by
 have:=h.le;exact D7.2 ⟨Cv.2 ⟨ht,h.sw,hy⟩,Dn.2 ⟨by omega,by omega,by omega⟩⟩
theorem Ci.load{L:List UInt8}{z w:Nat}{v:Bv}(h:Ci L z w v)(hi:inl v.t=false):loadU L (z:Int) (w:Int)=z-v.n∧v.n≤z:=by
 obtain⟨h1,h2⟩:=h.el.2 hi;refine⟨?_,h1⟩;rw [h.at_.load h.sw,Hy];have e:B9 w z v=z-v.n:=by unfold B9;rw [if_neg (by rw [hi];decide)]
 rw [e,Nat.mod_eq_of_lt h2]
theorem Ci.leads{L:List UInt8}{z w:Nat}{v:Bv}(h:Ci L z w v)(hi:inl v.t=false)(hl:Be (v.t:Int)=true)(hv:Av (v.w:Int)=true):J7 L 0 v (z:Int) (w:Int):=by
 have hm:=h.may hl hv;obtain⟨h1,h2⟩:=h.load hi;have hu:¬(z:Int)<(loadU L (z:Int) (w:Int):Int):=by rw [h1];omega
 have hi':An (v.t:Int)=false:=hi;exact⟨hm,Sd hm hi' hu,by rw [Acl hm hi' hu,h1];omega⟩
theorem Ci.num{L:List UInt8}{z w:Nat}{v:Bv}(h:Ci L z w v)(hi:inl v.t=true):loadU L (z:Int) (w:Int)=v.n % 2^(8*w)∧v.w≤w:=by
 refine⟨?_,h.el.1 hi⟩;rw [h.at_.load h.sw,Hy];have e:B9 w z v=v.n % 2^(8*w):=by unfold B9;rw [if_pos hi]
 rw [e,Nat.mod_mod]
theorem Aae{b:List UInt8}{v:Bv}{w:Nat}(hw:Av (w:Int)=true)(hb:b.length<2^32)(hf:Cu v b.length 0 w=true):Ci (Cp b v w) (Ah w b).length w v:=by
 obtain⟨a1,a2,a3⟩:=Hf hw b;refine⟨hw,(At.last _ _).app _,?_⟩;have h8:=L7 b hw;have e:=Wc (y:=v) (a:=b.length) (i:=0) (w:=w) hw (by rw [Nat.zero_mul,Nat.add_zero,←a1];omega) hf
 rwa [Nat.zero_mul,Nat.add_zero,←a1] at e
theorem G4.slot{L:List UInt8}{vs:List Bv}{v:Bv}(h:G4 L 0 vs v){i:Nat}{y:Bv}(hy:vs[i]?=some y):Ci L (v.n+i*v.w) v.w y:=by
 obtain⟨h1,h2⟩:=h.el i y hy;rw [Nat.zero_add] at h1;exact⟨h.w,h1,h2⟩
end Go.Proofs.YtgbjodnegkbfoaaGreat
namespace Go.Proofs.YtgbjodnegkbfoaaGreat
open Go.RowKit Go.Acc
theorem Ci.goes{L:List UInt8}{z w:Nat}{v:Bv}(h:Ci L z w v)(hi:inl v.t=false){t y:Int}(hl:Be t=true)(hy:Av y=true)(ht:An t=false):Bh L (z:Int) (w:Int) t y=0∧Bg L (z:Int) (w:Int) t y=(v.n:Int):=by
 have hm:=h.may hl hy;obtain⟨h1,h2⟩:=h.load hi;have hu:¬(z:Int)<(loadU L (z:Int) (w:Int):Int):=by rw [h1];omega
 exact⟨Sd hm ht hu,by rw [Acl hm ht hu,h1];omega⟩
structure Afn(L:List UInt8)(p q t v k n:Int)(u:Nat):Prop where
 plc:Dd L p q t v=0
 int:k=3∨k=8→Amr L p q t v=n∧Amq L p q t v=0
 uint:k=4∨k=9→Aho L p q t v=u∧Ahn L p q t v=0
 truth:k=2→Aku L p q t v=decide (n=1)
theorem Aou{L:List UInt8}{p q t v a x:Int}(hp:Dd L p q t v=0)(hA:Fm L p q t v=a)(hW:Fy L p q t v=x):Yl L p q t v=rdN L t a x∧scU L p q t v=Sr L t a x:=by
 unfold Yl scU;rw [hp,hA,hW];simp
theorem Ajk{L:List UInt8}{p q t v n:Int}(hp:Dd L p q t v=0)(hN:Yl L p q t v=decide (n<0))(hU:scU L p q t v=n.natAbs)(hn: -9223372036854775808≤n∧n≤9223372036854775807):Amr L p q t v=n∧Amq L p q t v=0:=by
 refine⟨?_,?_⟩
 ·unfold Amr;rw [hN,hU];by_cases h0:n<0
  ·rw [if_pos (decide_eq_true h0)];omega
  ·rw [if_neg (by simpa using h0),if_neg (by unfold Ze;simp;omega)];omega
 ·unfold Amq;rw [if_neg (by rw [hp];decide),hN,hU];by_cases h0:n<0
  ·rw [if_pos (decide_eq_true h0)]
  ·rw [if_neg (by simpa using h0),if_neg (by unfold Ze;simp;omega)]
theorem Aff{L:List UInt8}{p q t v:Int}{u:Nat}(hp:Dd L p q t v=0)(hN:Yl L p q t v=false)(hU:scU L p q t v=u):Aho L p q t v=u∧Ahn L p q t v=0:=by
 refine⟨?_,?_⟩
 ·unfold Aho;rw [hN,hU];rfl
 ·unfold Ahn;rw [if_neg (by rw [hp];decide),hN];rfl
theorem Abg{L:List UInt8}{a n:Int}{w:Nat}(hw:Av (w:Int)=true)(hb:bWidthI n≤w)(hn: -9223372036854775808≤n∧n≤9223372036854775807)(hl:loadU L a w=bits n % 2^(8*w))(h0:0≤a)(h1:a+w≤L.length):Zb L a w=n:=by
 unfold Zb;rw [if_pos ⟨hw,h0,h1⟩,hl,show(w:Int).toNat=w from rfl];exact Ass hw hb hn
theorem Am4{L:List UInt8}{z w:Nat}{v:Bv}{k n:Int}{u:Nat}(h:Ci L z w v)(hv:(k=1∧v=⟨0,1,0⟩)∨(k=2∧v=Cz n)∨(k=3∧v=Cf n)∨(k=4∧v=Ch u))(hn: -9223372036854775808≤n∧n≤9223372036854775807)(hu:u<18446744073709551616):
  Bm L.length z w v.t w=0∧An (v.t:Int)=true∧Cg (v.t:Int)=k∧Afn L z w v.t w k n u:=by
 have hi:inl v.t=true:=by rcases hv with⟨_,rfl⟩|⟨_,rfl⟩|⟨_,rfl⟩|⟨_,rfl⟩ <;>first|rfl|decide
 have hl:Be (v.t:Int)=true:=Mw hi;have hm:=h.may (t:=v.t) hl h.sw;obtain⟨hp,hA,hW⟩:=Apf (Ajj hi) hi hm;obtain⟨s1,s2⟩:=Aou hp hA hW;obtain⟨e1,e2⟩:=h.num hi;have hle:=h.le;refine⟨hm,hi,?_,hp,fun hk=>?_,fun hk=>?_,fun hk=>?_⟩
 ·rcases hv with⟨rfl,rfl⟩|⟨rfl,rfl⟩|⟨rfl,rfl⟩|⟨rfl,rfl⟩
  ·exact(by decide:Cg ((0:Nat):Int)=1)
  ·exact(by decide:Cg ((26:Nat):Int)=2)
  ·exact(by decide:Cg ((1:Nat):Int)=3)
  ·exact(by decide:Cg ((2:Nat):Int)=4)
 ·obtain rfl:v=Cf n:=by
   rcases hv with⟨rfl,_⟩|⟨rfl,_⟩|⟨_,h⟩|⟨rfl,_⟩
   ·omega
   ·omega
   ·exact h
   ·omega
  have hI:=Abg h.sw e2 hn e1 (by omega) (by omega);refine Ajk hp ?_ ?_ hn
  ·rw [s1];unfold rdN;rw [hI];simp [Cf]
  ·rw [s2];unfold Sr;rw [hI];rfl
 ·obtain rfl:v=Ch u:=by
   rcases hv with⟨rfl,_⟩|⟨rfl,_⟩|⟨rfl,_⟩|⟨_,h⟩
   ·omega
   ·omega
   ·omega
   ·exact h
  refine Aff hp ?_ ?_
  ·rw [s1];rfl
  ·rw [s2];show Sr L 2 (z:Int) (w:Int)=u;unfold Sr;rw [if_neg (by decide),if_neg (by decide),if_neg (by decide),e1];exact Aj4 h.sw e2 hu
 ·obtain rfl:v=Cz n:=by
   rcases hv with⟨rfl,_⟩|⟨_,h⟩|⟨rfl,_⟩|⟨rfl,_⟩
   ·omega
   ·exact h
   ·omega
   ·omega
  have e3:loadU L (z:Int) (w:Int)=if n=1 then 1 else 0:=by
   rw [e1];show(if n=1 then 1 else 0) % 2^(8*w)=_;rcases Cc.1 h.sw with rfl|rfl|rfl|rfl <;>(split <;>rfl)
  unfold Aku;rw [s2];show((Sr L 26 (z:Int) (w:Int):Int) != 0)=_;unfold Sr;rw [if_neg (by decide),if_pos rfl,e3];by_cases h1:n=1
  ·rw [if_pos h1];simp [h1]
  ·rw [if_neg h1];simp [h1]
theorem T8{L:List UInt8}{z w:Nat}{v:Bv}{k n:Int}{u:Nat}(h:Ci L z w v)(hv:(k=8∧G6 L 6 (bWidthI n) (bits n) v)∨(k=9∧G6 L 7 (bWidth u) u v))(hn: -9223372036854775808≤n∧n≤9223372036854775807)(hu:u<18446744073709551616):
  Bm L.length z w v.t v.w=0∧An (v.t:Int)=false∧Cg (v.t:Int)=k∧Bh L z w v.t v.w=0∧Bg L z w v.t v.w=v.n∧Afn L z w v.t v.w k n u:=by
 obtain⟨x,y,hx,hwx,hat,hmd,ht⟩:∃x y:Nat,Av (x:Int)=true∧v.w=x∧At L v.n (Ai x (y % 2^(8*x)))∧v.n % x=0∧((k=8∧v.t=6∧x=bWidthI n∧y=bits n)∨(k=9∧v.t=7∧x=bWidth u∧y=u)):=by
  rcases hv with⟨rfl,h1,h2,h3,h4⟩|⟨rfl,h1,h2,h3,h4⟩
  ·exact⟨_,_,Hp n,h2,h3,h4,.inl ⟨rfl,h1,rfl,rfl⟩⟩
  ·exact⟨_,_,E3 u,h2,h3,h4,.inr ⟨rfl,h1,rfl,rfl⟩⟩
 have hT:(v.t=6∨v.t=7):=by rcases ht with⟨_,h,_⟩|⟨_,h,_⟩ <;>omega
 have hi:inl v.t=false:=by rcases hT with e|e <;>rw [e] <;>decide
 have hl:Be (v.t:Int)=true:=by rcases hT with e|e <;>rw [e] <;>decide
 have hs:Nl (v.t:Int)=true:=by rcases hT with e|e <;>rw [e] <;>decide
 rw [hwx];have hm:=h.may (t:=v.t) (y:=x) hl hx;obtain⟨g1,g2⟩:=h.goes hi hl hx hi;have hle:=hat.le;rw [Aj] at hle;have hlo:loadU L (v.n:Int) (x:Int)=y % 2^(8*x):=by rw [hat.load hx,Hy,Nat.mod_mod]
 have hp:Dd L z w v.t x=0:=by
  unfold Dd;rw [if_neg (by rw [hm];decide),if_neg (by rw [hs];decide),if_neg (by rw [show An (v.t:Int)=false from hi];decide),if_neg (by rw [g1];decide),g2,if_neg (by omega),if_neg (by rw [Dn.2 ⟨by omega,by omega,by omega⟩];decide)]
 have hA:Fm L z w v.t x=v.n:=by unfold Fm;rw [if_pos hp,if_neg (by rw [show An (v.t:Int)=false from hi];decide),g2]
 have hW:Fy L z w v.t x=x:=by unfold Fy;rw [if_pos hp,if_neg (by rw [show An (v.t:Int)=false from hi];decide)]
 obtain⟨s1,s2⟩:=Aou hp hA hW;refine⟨hm,hi,?_,g1,g2,hp,fun hk=>?_,fun hk=>?_,fun hk=>?_⟩
 ·rcases ht with⟨rfl,e,_⟩|⟨rfl,e,_⟩ <;>rw [e] <;>decide
 ·rcases ht with⟨_,e,e1,e2⟩|⟨rfl,_⟩
  ·have hI:=Abg (n:=n) hx (by omega) hn (by rw [hlo,e2]) (by omega) (by omega);refine Ajk hp ?_ ?_ hn
   ·rw [s1];unfold rdN;rw [hI,e];simp
   ·rw [s2];unfold Sr;rw [hI,e];rfl
  ·omega
 ·rcases ht with⟨rfl,_⟩|⟨_,e,e1,e2⟩
  ·omega
  ·refine Aff hp ?_ ?_
   ·rw [s1,e];rfl
   ·rw [s2,e];show Sr L 7 (v.n:Int) (x:Int)=u;unfold Sr;rw [if_neg (by decide),if_neg (by decide),if_neg (by decide),hlo,e2];exact Aj4 hx (by omega) hu
 ·rcases ht with⟨rfl,_⟩|⟨rfl,_⟩ <;>omega
end Go.Proofs.YtgbjodnegkbfoaaGreat
