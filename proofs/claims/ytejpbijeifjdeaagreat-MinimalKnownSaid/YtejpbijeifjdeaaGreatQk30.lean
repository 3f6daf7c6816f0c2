/- Parts of the proof. -/
import Derived.Test.YtejpbijeifjdeaaGreatQk29
set_option maxHeartbeats 4000000
set_option maxRecDepth 100000
open Go.Value renaming int→Aa
open Go.IntKind renaming i64→Ab
open Nat renaming le_refl→Ae,le_trans→Am
open Go.RowKit.Below renaming refl→Af
open Go.IntWalk renaming i64_in→Ag
open List renaming getElem?_eq_getElem→Aj,take_of_length_le→Ax
open Go.Proofs.Tryz
open Go.Proofs.Tryz renaming prog→Ad
namespace Go.Proofs.YtejpbijeifjdeaaGreat
open Go.RowKit Go.Acc
variable {k:Nat}{t:TypeId}{cs:Array Value}{H:List P3}{y:P3}{l:List UInt8}
theorem nF(A:Option Addr)(n c:Nat)(p q t v f:Int)(r:Bool)(l:List UInt8)(w:World)(h:Ca w A n l)(hn:n≤4294967296)(hf:Bt f=true)(hr:K2 l ⟨p,q,t,v⟩ f=r):
  Calls Ad 101 #[.slice A n c,.agg (Adl p q t v),Aa Ab f] w (Adh (.bool r) w):=by
 have Q:=Hd hf;have Z:=h.1;have H:n≤1099511627776:=by omega
 have T:n≤9223372036854775807:=by omega
 unfold K2 at hr;simp only at hr;by_cases P:t=5
 ·subst P;rw [if_pos (.inl rfl)] at hr;clear hf;unfold Sw at hr;have E:=Yl l p q 5 v;obtain⟨m,M⟩:∃m,(Dx l p q 5 v [4,5,25]).length=m:=⟨_,rfl⟩;rw [M] at hr E;have I:=Hd (show((Dx l p q 5 v [4,5,25]).length:Int)=(m:Int) by rw [M]);have X:IntKind.u64.wrap (m:Int)=m:=by rw [IntKind.wrap_u64];omega
  have N:(m:Int)<18446744073709551616:=by omega
  have G:=Hd hr;clear M hr E;have g:=Hd (h.alloc (.cells (Adl p q 5 v) 70));have d:=Hd (Bh.new w 70 (Adl p q 5 v));have i:=Hd ((Af w.heap.size w).alloc (Ae _) (.cells (Adl p q 5 v) 70));clear h;obtain ⟨j,k,s,y⟩:=d.o.c4;go_enter func101,ntmps101;go_wp2_with fail;go_at_call 180;refine(S3 A n c p q 5 v _ m _ l _ g.o H rfl I.o rfl).mono ?_;rintro e F ⟨rfl,b⟩;replace i:=Hd (Ba i.o b);replace g:=Hd (g.o.pure b);replace d:=Hd (d.o.pure b);clear j k s y b;obtain ⟨j,k,s,y⟩:=d.o.c4;go_wp2_with fail;go_at_call 100;refine(Lo f m r _ Q.o N G.o).mono ?_;rintro e F ⟨rfl,b⟩;replace i:=Hd (Ba i.o b);replace g:=Hd (g.o.pure b);replace d:=Hd (d.o.pure b);clear j k s y b;obtain ⟨j,k,s,y⟩:=d.o.c4;go_wp2;go_ret;exact⟨rfl,i.o⟩
 by_cases D:t=25
 ·subst D;rw [if_pos (.inr rfl)] at hr;clear hf P;unfold Sw at hr;have E:=Yl l p q 25 v;obtain⟨m,M⟩:∃m,(Dx l p q 25 v [4,5,25]).length=m:=⟨_,rfl⟩;rw [M] at hr E;have I:=Hd (show((Dx l p q 25 v [4,5,25]).length:Int)=(m:Int) by rw [M]);have X:IntKind.u64.wrap (m:Int)=m:=by rw [IntKind.wrap_u64];omega
  have N:(m:Int)<18446744073709551616:=by omega
  have G:=Hd hr;clear M hr E;have g:=Hd (h.alloc (.cells (Adl p q 25 v) 70));have d:=Hd (Bh.new w 70 (Adl p q 25 v));have i:=Hd ((Af w.heap.size w).alloc (Ae _) (.cells (Adl p q 25 v) 70));clear h;obtain ⟨j,k,s,y⟩:=d.o.c4;go_enter func101,ntmps101;go_wp2_with fail;go_at_call 180;refine(S3 A n c p q 25 v _ m _ l _ g.o H rfl I.o rfl).mono ?_;rintro e F ⟨rfl,b⟩;replace i:=Hd (Ba i.o b);replace g:=Hd (g.o.pure b);replace d:=Hd (d.o.pure b);clear j k s y b;obtain ⟨j,k,s,y⟩:=d.o.c4;go_wp2_with fail;go_at_call 100;refine(Lo f m r _ Q.o N G.o).mono ?_;rintro e F ⟨rfl,b⟩;replace i:=Hd (Ba i.o b);replace g:=Hd (g.o.pure b);replace d:=Hd (d.o.pure b);clear j k s y b;obtain ⟨j,k,s,y⟩:=d.o.c4;go_wp2;go_ret;exact⟨rfl,i.o⟩
 rw [if_neg (by omega)] at hr;have Y:(t==5)=false:=beq_eq_false_iff_ne.mpr P;have R:(t==25)=false:=beq_eq_false_iff_ne.mpr D;by_cases S:t=6
 ·subst S;rw [if_pos rfl] at hr;unfold bK jN at hr;obtain⟨a,L⟩:∃a,F6 l p q 6 v=a:=⟨_,rfl⟩;obtain⟨x,O⟩:∃a,G3 l p q 6 v=a:=⟨_,rfl⟩;rw [L,O] at hr;have B:=U8 l a x;obtain⟨nn,C⟩:∃z,Ht l a x=z:=⟨_,rfl⟩;rw [C] at hr B;have V:=Hd L;have K:=Hd O;have J:=Hd C;have G:=Hd hr;clear L O C hr hf P D Y R;have g:=Hd (h.alloc (.cells (Adl p q 6 v) 70));have d:=Hd (Bh.new w 70 (Adl p q 6 v));have i:=Hd ((Af w.heap.size w).alloc (Ae _) (.cells (Adl p q 6 v) 70));clear h;obtain ⟨j,k,s,y⟩:=d.o.c4;go_enter func101,ntmps101;go_wp2_with fail;go_at_call 166;refine(M5 A n c p q 6 v a x _ l _ g.o H V.o K.o rfl).mono ?_;rintro e F ⟨rfl,b⟩;replace i:=Hd (Ba i.o b);replace g:=Hd (g.o.pure b);replace d:=Hd (d.o.pure b);clear j k s y b;obtain ⟨j,k,s,y⟩:=d.o.c4;go_wp2_with fail;go_at_call 177;refine(O1 A n c a x nn l _ g.o T J.o).mono ?_;rintro e F ⟨rfl,b⟩;replace i:=Hd (Ba i.o b);replace g:=Hd (g.o.pure b);replace d:=Hd (d.o.pure b);clear j k s y b;obtain ⟨j,k,s,y⟩:=d.o.c4;go_wp2_with fail;go_at_call 178;refine(aE f nn r _ Q.o B G.o).mono ?_;rintro e F ⟨rfl,b⟩;replace i:=Hd (Ba i.o b);replace g:=Hd (g.o.pure b);replace d:=Hd (d.o.pure b);clear j k s y b;obtain ⟨j,k,s,y⟩:=d.o.c4;go_wp2;go_ret;exact⟨rfl,i.o⟩
 rw [if_neg S] at hr;have e6:(t==6)=false:=beq_eq_false_iff_ne.mpr S;by_cases U:t=7
 ·subst U;rw [if_pos rfl] at hr;unfold Xq jM at hr;obtain⟨a,L⟩:∃a,F6 l p q 7 v=a:=⟨_,rfl⟩;obtain⟨x,O⟩:∃a,G3 l p q 7 v=a:=⟨_,rfl⟩;rw [L,O] at hr;have B:=U9 l a x;obtain⟨u,C⟩:∃z,loadU l a x=z:=⟨_,rfl⟩;rw [C] at hr B;have V:=Hd L;have K:=Hd O;have J:=Hd C;have G:=Hd hr;have W:(u:Int)<18446744073709551616:=by omega
  clear L O C hr hf P D Y R S e6 B;have g:=Hd (h.alloc (.cells (Adl p q 7 v) 70));have d:=Hd (Bh.new w 70 (Adl p q 7 v));have i:=Hd ((Af w.heap.size w).alloc (Ae _) (.cells (Adl p q 7 v) 70));clear h;obtain ⟨j,k,s,y⟩:=d.o.c4;go_enter func101,ntmps101;go_wp2_with fail;go_at_call 166;refine(M5 A n c p q 7 v a x _ l _ g.o H V.o K.o rfl).mono ?_;rintro e F ⟨rfl,b⟩;replace i:=Hd (Ba i.o b);replace g:=Hd (g.o.pure b);replace d:=Hd (d.o.pure b);clear j k s y b;obtain ⟨j,k,s,y⟩:=d.o.c4;go_wp2_with fail;go_at_call 176;refine(Ra A n c a x u l _ g.o T J.o).mono ?_;rintro e F ⟨rfl,b⟩;replace i:=Hd (Ba i.o b);replace g:=Hd (g.o.pure b);replace d:=Hd (d.o.pure b);clear j k s y b;obtain ⟨j,k,s,y⟩:=d.o.c4;go_wp2_with fail;go_at_call 100;refine(Lo f u r _ Q.o W G.o).mono ?_;rintro e F ⟨rfl,b⟩;replace i:=Hd (Ba i.o b);replace g:=Hd (g.o.pure b);replace d:=Hd (d.o.pure b);clear j k s y b;obtain ⟨j,k,s,y⟩:=d.o.c4;go_wp2;go_ret;exact⟨rfl,i.o⟩
 rw [if_neg U] at hr;have e7:(t==7)=false:=beq_eq_false_iff_ne.mpr U;rw [←zK l ⟨p,q,t,v⟩ (Sk hf).1] at hr;have G:=Hd hr;clear hr hf P D S U;have g:=Hd (h.alloc (.cells (Adl p q t v) 70));have d:=Hd (Bh.new w 70 (Adl p q t v));have i:=Hd ((Af w.heap.size w).alloc (Ae _) (.cells (Adl p q t v) 70));clear h;obtain ⟨j,k,s,y⟩:=d.o.c4;go_enter func101,ntmps101;go_wp2_with fail;go_at_call 181;refine(nH A n c p q t v f r l _ g.o hn Q.o G.o).mono ?_;rintro e F ⟨rfl,b⟩;replace i:=Hd (Ba i.o b);replace g:=Hd (g.o.pure b);replace d:=Hd (d.o.pure b);clear j k s y b;obtain ⟨j,k,s,y⟩:=d.o.c4;go_wp2;go_ret;exact⟨rfl,i.o⟩
structure Lc where
 B0:Nat
 B2:Nat
 bw:Nat
 A:Option Addr
 n:Nat
 c:Nat
 l:List UInt8
structure Lc.Ok(E:Lc):Prop where
 hA:∀ad,E.A=some ad→ad.block<E.B0
 w0:E.B0≤E.bw
 w2:E.bw<E.B2
 hc:E.n≤E.c
 hn:E.n≤1000000
structure E8(E:Lc)(g:Option Nat)(H:List P3)(x:Int)(w:World):Prop where
 ok:E.Ok
 b:Ca w E.A E.n E.l
 R:∃Ah nh ch,Bh w E.bw 99 #[.slice E.A E.n E.c,.slice Ah nh ch,Aa Ab x]∧Ry w E.B2 Ah nh ch H∧Ah.map (·.block)=g
 sz:E.B2≤w.heap.size
def Lc.Free(E:Lc)(g:Option Nat)(k:Nat):Prop:=k≠E.bw∧g≠some k
structure E5(E:Lc)(g g':Option Nat)(w w':World):Prop where
 fr:Fr (fun k=>¬E.Free g k) w w'
 keep:∀k,k<w.heap.size→E.Free g k→E.Free g' k
section
variable {E:Lc} {H:List P3} {x:Int} {g g' g'':Option Nat} {w w' w'':World}
theorem E5.refl(E:Lc)(g:Option Nat)(w:World):E5 E g g w w:=⟨Fr.refl _ _,fun _ _ h=>h⟩
theorem E5.of_below(hb:Below w.heap.size w w'):E5 E g g w w':=⟨Fr.of_below hb _,fun _ _ h=>h⟩
theorem E5.trans(h:E5 E g g' w w')(h':E5 E g' g'' w' w''):E5 E g g'' w w'':=
 ⟨h.fr.trans h'.fr (fun k hk hn hf=>hn (h.keep k hk hf)),fun k hk hf=>h'.keep k (Nat.lt_of_lt_of_le hk h.fr.size) (h.keep k hk hf)⟩
theorem E5.below(h:E5 E g g' w w')(hb:Below w'.heap.size w' w''):E5 E g g' w w'':=h.trans (E5.of_below hb)
theorem E5.drew(h:E5 E g g' w w'):E5 E g g' w w'.drew:=h.below ((Af _ _).drew)
theorem E5.alloc(h:E5 E g g' w w')(o:Obj):E5 E g g' w (w'.alloc o):=h.below ((Af _ _).alloc (Ae _) o)
def I0(E:Lc)(g:Option Nat)(w:World)(k:Nat)(t:TypeId)(cs:Array Value):Prop:=Bh w k t cs∧E.Free g k
theorem I0.to(h:I0 E g w k t cs)(ht:E5 E g g' w w'):I0 E g' w' k t cs:=⟨h.1.fr ht.fr (fun hn=>hn h.2),ht.keep k h.1.lt h.2⟩
theorem I0.pure(h:I0 E g w k t cs)(hb:Below w.heap.size w w'):I0 E g w' k t cs:=⟨h.1.pure hb,h.2⟩
theorem I0.drew(h:I0 E g w k t cs):I0 E g w.drew k t cs:=h
theorem E8.pure(h:E8 E g H x w)(hb:Below w.heap.size w w'):E8 E g H x w':=by
 obtain⟨Ah,nh,ch,h1,h2,h3⟩:=h.R;exact⟨h.ok,h.b.pure hb,⟨Ah,nh,ch,h1.pure hb,h2.pure hb,h3⟩,Am h.sz hb.size⟩
theorem E8.drew(h:E8 E g H x w):E8 E g H x w.drew:=h.pure ((Af _ _).drew)
theorem E8.alloc(h:E8 E g H x w)(o:Obj):E8 E g H x (w.alloc o):=h.pure ((Af _ _).alloc (Ae _) o)
theorem E8.len(h:E8 E g H x w):E.l.length=E.n:=h.b.1
theorem E8.row(h:E8 E g H x w):∀k,g=some k→E.B2≤k∧k<w.heap.size:=by
 obtain⟨Ah,nh,ch,h1,h2,h4⟩:=h.R;intro k hk;cases Ah with
 |none=>rw [←h4] at hk;cases hk
 |some ad=>
  rw [←h4] at hk;injection hk with hk
  subst hk;exact⟨(h2.addr ad rfl).2.1,(h2.addr ad rfl).2.2⟩
theorem E8.newer(h:E8 E g H x w)(hk:w.heap.size≤k):E.Free g k:=by
 have:=h.sz;have:=h.ok.w2;refine⟨by omega,fun e=>?_⟩;have:=(h.row _ e).2;omega
theorem E8.lone(h:E8 E g H x w)(t:TypeId)(cs:Array Value):I0 E g (w.alloc (.cells cs t)) w.heap.size t cs:=⟨Bh.new w t cs,h.newer (Ae _)⟩
theorem E8.low(h:E8 E g H x w)(hk:k<E.B0):E.Free g k:=by
 have:=h.ok.w0;have:=h.ok.w2;refine⟨by omega,fun e=>?_⟩;have:=(h.row _ e).1;omega
theorem E5.belowB(h:E5 E g g' w w')(hw:E8 E g H x w):Below E.B0 w w':=by
 refine h.fr.belowB (fun k hk hn=>hn (hw.low hk)) ?_;have:=hw.sz;have:=hw.ok.w0;have:=hw.ok.w2;omega
theorem E8.c0(h:E8 E g H x w):w.cell? ⟨E.bw,0,none⟩=some (.slice E.A E.n E.c):=by
 obtain⟨_,_,_,h1,_⟩:=h.R;exact h1.cell 0
theorem E8.c2(h:E8 E g H x w):w.cell? ⟨E.bw,2,none⟩=some (Aa Ab x):=by
 obtain⟨_,_,_,h1,_⟩:=h.R;exact h1.cell 2
theorem E8.frozen(h:E8 E g H x w)(i:Nat):w.frozen? ⟨E.bw,i,none⟩=false:=by
 obtain⟨_,_,_,h1,_⟩:=h.R;exact h1.frozen i
theorem E8.note(h:E8 E g H x w)(a:Int):E8 E g H a (w.setCell ⟨E.bw,2,none⟩ (Aa Ab a))∧E5 E g g w (w.setCell ⟨E.bw,2,none⟩ (Aa Ab a)):=by
 have f:Fr (fun k=>k=E.bw) w (w.setCell ⟨E.bw,2,none⟩ (Aa Ab a)):=Fr.setCell (S:=fun k=>k=E.bw) (Fr.refl _ _) (fun _=>rfl) _;have i:=h.ok;have n:=i.w0;have o:=i.w2;obtain⟨j,p,l,h1,h2,h3⟩:=h.R;refine⟨⟨i,h.b.fr f ?_,⟨j,p,l,h1.set_ 2 _,h2.fr f ?_,h3⟩,Am h.sz f.size⟩,f.mono ?_,fun _ _ h=>h⟩
 ·intro d c e;have:=i.hA d c;have e:d.block=E.bw:=e;omega
 ·intro d c e;have:=(h2.addr d c).2.1;have e:d.block=E.bw:=e;omega
 ·rintro k _ rfl m;exact m.1 rfl
end
theorem Abf{E:Lc}{g0 g:Option Nat}{x:Int}{w wv w4:World}{A4 Ah:Option Addr}{n4 c4 nh ch:Nat}
  (h:E8 E g H x wv) (ht:E5 E g0 g w wv) (h1:Bh wv E.bw 99 #[.slice E.A E.n E.c,.slice Ah nh ch,Aa Ab x]) (h2:Ry wv E.B2 Ah nh ch H) (h4:Ah.map (·.block)=g)
  (hf:Fr (fun k=>∃ad,Ah=some ad∧k=ad.block) wv w4) (hat:A4.map (·.block)=Ah.map (·.block)∨∃k,A4.map (·.block)=some k∧wv.heap.size≤k) (ho:Ry w4 E.B2 A4 n4 c4 (H++ [y])):
  ∃g',E8 E g' (H++ [y]) x (w4.setCell ⟨E.bw,1,none⟩ (.slice A4 n4 c4))∧E5 E g0 g' w (w4.setCell ⟨E.bw,1,none⟩ (.slice A4 n4 c4)):=by
 have f:=h.ok;have m:=h.sz;have o:=f.w2;have r:=f.w0;have a:Fr (fun k=>k=E.bw) w4 (w4.setCell ⟨E.bw,1,none⟩ (.slice A4 n4 c4)):=Fr.setCell (S:=fun k=>k=E.bw) (Fr.refl _ _) (fun _=>rfl) _;have p:∀ad,Ah=some ad→E.B2≤ad.block:=fun ad had=>(h2.addr ad had).2.1
 have l:∀ad,A4=some ad→E.B2≤ad.block:=fun ad had=>(ho.addr ad had).2.1
 have d:∀k,k<E.B2→¬ ∃ad,Ah=some ad∧k=ad.block:=by
  rintro k q ⟨ad,e,rfl⟩;have:=p ad e;omega
 refine⟨A4.map (·.block),⟨f,?_,⟨A4,n4,c4,?_,?_,rfl⟩,?_⟩,ht.trans ⟨?_,?_⟩⟩
 ·refine(h.b.fr hf (fun ad had=>d _ ?_)).fr a (fun ad had e=>?_)
  ·have:=f.hA ad had;omega
  ·have:=f.hA ad had;have e:ad.block=E.bw:=e;omega
 ·exact(h1.fr hf (d _ o)).set_ 1 _
 ·refine ho.fr a (fun ad had e=>?_);have i:=l ad had;have e:ad.block=E.bw:=e;omega
 ·exact Am m (Am hf.size a.size)
 ·refine(hf.mono (T:=fun k=>¬E.Free g k) ?_).trans a (fun k _ e hF=>hF.1 e);rintro k _ ⟨ad,e,rfl⟩ hF;apply hF.2;rw [←h4,e];rfl
 ·intro k q hF;refine⟨hF.1,fun e=>?_⟩;rcases hat with i|⟨j,i,s⟩
  ·rw [i,h4] at e;exact hF.2 e
  ·rw [i] at e;injection e with e
   omega
def Kg(H:List P3):List P3:=H.filter fun y=>decide (y.2.1≠4)
theorem xT(H:List P3)(h:y.2.1=4):Kg (H++ [y])=Kg H:=by simp [Kg,h]
theorem uC(H:List P3)(h:y.2.1≠4):Kg (H++ [y])=Kg H++ [y]:=by simp [Kg,h]
theorem jF(h:y.2.1≠4):y∈Kg H↔y∈H:=by simp [Kg,h]
def Ms(l:List UInt8)(H:List P3):Prop:=H.length+Pw l.length H≤(l.length+1)*576
theorem qS(h:Ms l H)(hy:y∈M3 l.length)(hn:y∉H):Ms l (H++ [y]):=by
 have:=Qz l.length H y hy hn;unfold Ms at h⊢;rw [List.length_append,List.length_singleton];omega
theorem qR(h:Ms l H)(hn:l.length≤1000000):H.length≤1073741823:=by
 unfold Ms at h;omega
def kS(E:Lc)(g:Option Nat)(x:Int)(w w':World):Except Int (List P3)→Prop
 | .ok had=>∃g' H',Kg H'=had∧Ms E.l H'∧E8 E g' H' x w'∧E5 E g g' w w'
 | .error a=>0≤a∧∃g' H',E8 E g' H' a w'∧E5 E g g' w w'
def tA(E:Lc)(go:Rq→List P3→Option (Except Int (List P3))):Prop:=∀(g:Option Nat) (H:List P3) (x p q t v:Int) (res:Except Int (List P3)) (w:World),E8 E g H x w→x<0→Ms E.l H→H8 ⟨p,q,t,v⟩→go ⟨p,q,t,v⟩ (Kg H)=some res→
 Calls Ad 64 #[Adm E.bw,.agg (Adl p q t v)] w fun e w'=>e= .returned (.tuple #[])∧kS E g x w w' res
def Abz(E:Lc)(go:Rq→List P3→Option (Except Int (List P3)))(r:Rq)(is:List Nat)(res:Except Int (List P3))(x:Int)(H2:List P3)(x2:Int):Prop:=
 (x2=x∧Ms E.l H2∧Ek go E.l r is (Kg H2)=some res)∨(0≤x2∧res= .error x2)
def Oi(E:Lc)(go:Rq→List P3→Option (Except Int (List P3)))(r:Rq)(is:List Nat)(res:Except Int (List P3))(x:Int)(bR:Nat)(g:Option Nat)(w wx:World):Prop:=
 ∃g2 H2 x2,E8 E g2 H2 x2 wx∧E5 E g g2 w wx∧I0 E g2 wx bR 70 (Adl r.p r.q r.t r.v)∧Abz E go r is res x H2 x2
def Aai(E:Lc)(g:Option Nat)(H:List P3)(x:Int)(w wx:World):Prop:=∃g',E8 E g' H x wx∧E5 E g g' w wx
theorem nE{N:Nat}(h:k<N):(List.range N).drop k=k::(List.range N).drop (k+1):=by
 rw [List.drop_eq_getElem_cons (by rw [List.length_range];exact h)];simp
theorem zL(E:Lc)(g:Option Nat)(H:List P3)(x p q t v:Int)(w:World)(h:E8 E g H x w)(hx:0≤x):
  Calls Ad 64 #[Adm E.bw,.agg (Adl p q t v)] w (Adh (.tuple #[]) w):=by
 have b:=Hd (h.alloc (.cells (Adl p q t v) 70));have a:=Hd ((Af w.heap.size w).alloc (Ae _) (.cells (Adl p q t v) 70));clear h;have c:=b.o.c2;go_enter func64,ntmps64;go_wp2_with fail;refine bodyPost_ret (results_none rfl _ _ _) rfl ?_;exact⟨rfl,a.o⟩
theorem zM(E:Lc)(d:Nat)(IH:tA E (Dt E.l d)):tA E (Dt E.l (d+1)):=by
 intro g H x p q t v res w h hx bu c8 cz;have fe:=h.ok.hn;have e5:=h.ok.hc;have ep:=h.len;have cb:=Hd IH;have m:=Hd (h.alloc (.cells (Adl p q t v) 70));have f:=Hd (h.lone 70 (Adl p q t v));have B:=Hd ((E5.refl E g w).alloc (.cells (Adl p q t v) 70));have bi:=Hd bu;have cd:=Hd c8;have HG:=Hd cz;have dt:=Hd (qR bu (by omega));clear h IH bu c8 cz;obtain⟨il,c1⟩:∃b,Bs t=b:=⟨_,rfl⟩;have ah:=Hd c1;clear c1;go_enter func64,ntmps64;go_upto_region 1 with fail
 generalize w.alloc (.cells (Adl p q t v) 70)=w1 at m f B⊢;obtain⟨K,cu⟩:∃b,w.heap.size=b:=⟨_,rfl⟩;rw [cu] at f⊢;clear cu;have C:=m.o.c0;have M:=m.o.c2;have D:=Be f.o.1;have F:=Bc f.o.1;have G:=Bb f.o.1;have I:=Bf f.o.1;go_wp2_with fail;go_at_call 97;refine(K7 t il _ ah.o).mono ?_;rintro e w2 ⟨rfl,s⟩;replace B:=Hd (B.o.below s);replace m:=Hd (m.o.pure s);replace f:=Hd (f.o.pure s);clear C M D F G I;clear s;have C:=m.o.c0;have M:=m.o.c2;have D:=Be f.o.1;have F:=Bc f.o.1;have G:=Bb f.o.1;have I:=Bf f.o.1;cases il with
 |true=>
  have z:res= .ok (Kg H):=by
   have h:=HG.o;unfold Dt at h;rw [if_pos ah.o] at h;injection h with h
   exact h.symm
  subst z;go_wp2_with fail;refine bodyPost_ret (results_none rfl _ _ _) rfl ?_;exact⟨rfl,g,H,rfl,bi.o,m.o,B.o⟩
 |false=>
  obtain⟨a,ha⟩:∃a,By E.l p q t v=a:=⟨_,rfl⟩;obtain⟨er,cw⟩:∃a,B7 E.l p q t v=a:=⟨_,rfl⟩;have HA:=Hd ha;have dp:=Hd cw;have dm:=Hd (show 0≤a by rw [←ha];exact(X3 E.l p q t v).1);have du:=Hd (show(a,t,v)∈M3 E.l.length by have:=Yv (l:=E.l) cd.o (by simp only;rw [ah.o];decide);unfold Hh at this;simp only [ha] at this;exact this);clear ha cw;go_wp2_with fail;go_region_held3 (fun w'=>w'.cell? ⟨E.bw,0,none⟩=some (.slice E.A E.n E.c)∧(w'.cell? ⟨K,0,none⟩=some (Aa Ab p)∧w'.cell? ⟨K,1,none⟩=some (Aa Ab q)∧w'.cell? ⟨K,2,none⟩=some (Aa Ab t)∧w'.cell? ⟨K,3,none⟩=some (Aa Ab v))) (first|with_reducible exact⟨C,D,F,G,I⟩|with_reducible exact⟨Bi C,Bi D,Bi F,Bi G,Bi I⟩) (first|(go_at_call 99;(with_reducible refine(Rf E.A E.n E.c p q t v a er E.l _ m.o.drew.b (by omega) HA.o dp.o).mono ?_);rintro e w5 ⟨rfl,s⟩;replace B:=Hd (B.o.drew.below s);replace m:=Hd (m.o.drew.pure s);replace f:=Hd (f.o.drew.pure s);clear C M D F G I;clear s;have C:=m.o.c0;have M:=m.o.c2;have D:=Be f.o.1;have F:=Bc f.o.1;have G:=Bb f.o.1;have I:=Bf f.o.1));go_upto_region 4 with fail
  have HY:=Hd (m.o.lone 70 (Adl a 0 t v));have a4:Below w5.heap.size w5 (w5.alloc (.cells (Adl a 0 t v) 70)):=(Af _ _).alloc (Ae _) _;replace B:=Hd (B.o.below a4);replace m:=Hd (m.o.pure a4);replace f:=Hd (f.o.pure a4);clear C M D F G I;clear a4;generalize w5.alloc (.cells (Adl a 0 t v) 70)=w6 at B m f HY⊢;generalize w5.heap.size=bY at HY⊢;obtain⟨Ah,nh,ch,h1,h2,h4⟩:=m.o.R;have X:=Hd h1;have HH:=Hd h2;have ca:=Hd h4;have aw:=Hd h2.1;have fd:nh≤1073741823:=by have:=dt.o;have:=aw.o;omega
  clear h1 h2 h4;have c9:Dt E.l (d+1) ⟨p,q,t,v⟩ (Kg H)=if(a,t,v)∈Kg H∨t=4 then some (.ok (Kg H)) else if 1<v∧K2 E.l ⟨p,q,t,v⟩ (v/2)=true then some (.error a) else Md (Dt E.l d) E.l ⟨p,q,t,v⟩ (Kg H++ [(a,t,v)]):=by
   unfold Dt Hh;simp only [HA.o,ah.o];rw [if_neg (by decide)]
  have ay:=Hd (c9.symm.trans HG.o);clear c9 HG;go_wp2_with fail;go_loopw [7] (fun i wr=>∃k:Nat,k≤nh∧i= Aa Ab k∧Below w6.heap.size w6 wr∧∀j y,j<k→H[j]?=some y→y≠(a,t,v)) (fun i _=>nh-(intOf i).toNat)
  case atStart=>exact⟨0,by omega,rfl,Af _ _,fun j y hj=>absurd hj (Nat.not_lt_zero _)⟩
  case round=>
   obtain⟨k,hk,rfl,s,a9⟩:=hrel;replace m:=Hd (m.o.pure s);replace f:=Hd (f.o.pure s);replace HY:=Hd (HY.o.pure s);replace B:=Hd (B.o.below s);replace X:=Hd (X.o.pure s);replace HH:=Hd (HH.o.pure s);have b8:=Hd s;have ag:=Hd a9;clear s a9;by_cases bs:k<nh
   ·obtain⟨b2,o2,e2,h2⟩:=qD HH.o.is bs;subst e2;obtain⟨⟨y1,y2,y3⟩,hy⟩:∃y,H[k]?=some y:=⟨_,Aj (by rw [aw.o];exact bs)⟩;obtain⟨a0,a1,a2,a3⟩:=h2 y1 y2 y3 hy;obtain⟨r,P⟩:∃q,decide ((y1,y2,y3)=(a,t,v))=q:=⟨_,rfl⟩;have e7:=cZ a t v y1 y2 y3 r P;have J:=Hd P;have cj:=Hd hy;have e8:(0:Int)≤k:=by omega
    have fa:(k:Int)<nh:=by omega
    have ea:IntKind.i64.wrap ((k:Int)+1)=(k:Int)+1:=Ag _ (by omega);have d1:_=some (Value.slice (some ⟨b2,o2,none⟩) nh ch):=X.o.cell 1;have z0:=Be HY.o.1;have z1:=Bc HY.o.1;have z2:=Bb HY.o.1;have z3:=Bf HY.o.1;clear h2 hy P;obtain⟨wz,rfl⟩:∃wo:World,wo=wr:=⟨_,rfl⟩;go_wp2_with fail;go_quiet (fail);cases r with
    |true=>
     have ba:(a,t,v)∈H:=by
      rw [←of_decide_eq_true J.o];exact List.mem_of_getElem? cj.o
     have z:res= .ok (Kg H):=by
      have h:=ay.o;rw [if_pos (by by_cases h4:t=4;exact .inr h4;exact .inl ((jF (y:=(a,t,v)) h4).2 ba))] at h;injection h with h
      exact h.symm
     subst z;have HD:=Hd (below_drewN (Af wz.heap.size wz) nq);clear ba;go_wp2_with fail;refine bodyPost_ret (results_none rfl _ _ _) rfl ?_;exact⟨rfl,g,H,rfl,bi.o,m.o.pure HD.o,B.o.below HD.o⟩
    |false=>
     clear d1 z0 z1 z2 z3 a0 a1 a2 a3;go_wp2_with fail;go_roundw
     case rel=>
      refine⟨k+1,by omega,by go_num,below_drewN b8.o _,fun j y' hj hy=>?_⟩;by_cases e:j=k
      ·subst e;rw [cj.o] at hy;injection hy with hy
       subst hy;exact of_decide_eq_false J.o
      ·exact ag.o j y' (by omega) hy
     case measure=>simp [intOf];omega
   ·have a5:k=nh:=by omega
    have c6:(a,t,v)∉H:=by
     intro hm;obtain⟨j,hj,e⟩:=List.mem_iff_getElem.1 hm;have:=aw.o;exact ag.o j _ (by omega) (by rw [Aj hj,e]) rfl
    have bj:=Hd c6;have d5:decide (k<nh)=false:=decide_eq_false (by omega);clear c6 bs b8 ag a5;have d1:_=some (Value.slice Ah nh ch):=X.o.cell 1;have z0:=Be HY.o.1;have z1:=Bc HY.o.1;have z2:=Bb HY.o.1;have z3:=Bf HY.o.1;obtain⟨wu,rfl⟩:∃wo:World,wo=wr:=⟨_,rfl⟩;go_upto_region 8 with fail
    go_cut [] from 15 to 130 (fun wx=>∃wy,wy=wx∧Aai E g (H++ [(a,t,v)]) x wu wx)
    case first=>
     have bf:=Hd (Co wu);have dy:=Hd ((HH.o.pure bf.o).pure ((Af _ _).alloc (Ae _) (.cells (Adl a 0 t v) 70)));have dv:=Hd (show wO (wu.drew.alloc (.cells (Adl a 0 t v) 70)) (some ⟨wu.drew.heap.size,0,none⟩) 1 [(a,t,v)] from⟨rfl,fun j u hu=>⟨_,_,rfl,by
      rw [Nat.zero_add,(Bh.new wu.drew _ _).cell j];simpa [hcl] using hu⟩⟩)
     have aa:=Hd (bf.o.alloc bf.o.size (.cells (Adl a 0 t v) 70));have k2:=fun o=>C4 o d1
     have c7:¬ ∃ad,Ah=some ad∧E.bw=ad.block:=by
      rintro⟨ad,e,e2⟩;have:=(HH.o.addr ad e).2.1;have:=m.o.ok.w2;omega
     have dx:=Hd c7;clear c7;go_region_law (first
      |(refine aL rfl (.tmp 62) (.tmp 64) rfl E.B2 Ah nh ch H rfl dy.o (some ⟨wu.heap.size,0,none⟩) 1 1 [(a,t,v)] rfl dv.o (by omega) (Am m.o.sz aa.o.size) ?_;intro A3 ex w3 bd bp Y;have dz:=Hd bd;have dq:=Hd bp;have be:=Hd Y;have a8:=Hd ((X.o.pure aa.o).fr bp dx.o);have em:_=some (Value.slice Ah nh ch):=a8.o.cell 1;have eo:=a8.o.frozen 1;clear bd bp Y))
     all_goals
      go_wp2_with fail;go_meet;refine⟨_,rfl,Abf (m.o.pure aa.o) (E5.of_below aa.o) (X.o.pure aa.o) (HH.o.pure aa.o) ca.o dq.o ?_ dz.o⟩;rcases be.o with h|h
      ·exact .inl h
      ·exact .inr ⟨_,h,Ae _⟩
    case rest=>
    obtain⟨w7,rfl,g1,cn,bm⟩:=hcut;replace B:=Hd (B.o.trans bm);replace f:=Hd (f.o.to bm);replace m:=Hd cn;clear cn bm d1 z0 z1 z2 z3 HY X HH ca aw d5;have S:=Hd (qS bi.o du.o bj.o);have C:=m.o.c0;have M:=m.o.c2;have D:=Be f.o.1;have F:=Bc f.o.1;have G:=Bb f.o.1;have I:=Bf f.o.1;by_cases h4:t=4
    ·have z:res= .ok (Kg H):=by
      have h:=ay.o;rw [if_pos (.inr h4)] at h;injection h with h
      exact h.symm
     subst z;have e4:(t==4)=true:=beq_iff_eq.2 h4;have dr:=Hd (xT H (y:=(a,t,v)) h4);clear h4;go_wp2_with fail;refine bodyPost_ret (results_none rfl _ _ _) rfl ?_;exact⟨rfl,g1,_,dr.o,S.o,m.o,B.o⟩
    have e4:(t==4)=false:=beq_eq_false_iff_ne.mpr h4;have P:=ay.o;rw [if_neg (by rintro(h|h);exact bj.o ((jF (y:=(a,t,v)) h4).1 h);exact h4 h),←uC H (y:=(a,t,v)) h4] at P;have W:=Hd P;have bv:Bt v=true:=cd.o.elim (fun h=>by have h2:=ah.o;simp only at h;rw [h2] at h;cases h) (fun h=>h.1);have ci:=Hd bv;have ff:1≤v∧v≤8:=Sk bv;clear P ay bj h4 bv;generalize H++ [(a,t,v)]=H1 at m S W;obtain⟨fs,bq⟩:∃b,K2 E.l ⟨p,q,t,v⟩ (v/2)=b:=⟨_,rfl⟩;have b9:=Hd bq;rw [bq] at W;clear bq;go_wp2_with fail;go_cut [84] from 15 to 130 (fun u84 wx=>∃wy,wy=wx∧u84= .bool (decide (1<v∧fs=true))∧Below w7.heap.size w7 wx)
    case first=>
     by_cases a6:1<v
     ·have d4:decide (1<v)=true:=decide_eq_true a6;have e6:IntKind.i64.wrap (v.tdiv 2)=v/2:=by rw [Int.tdiv_eq_ediv_of_nonneg (by omega)];exact Ag _ (by omega)
      have bl:=Hd (show decide (1<v∧fs=true)=fs by cases fs <;>simp [a6]);have d0:=Hd (show Bt (v/2)=true by rcases Bz.1 ci.o with h|h|h|h <;>subst h <;>first|(exfalso;omega)|decide);have J:=Hd (Af w7.heap.size w7);clear B;go_region_held3 (fun w'=>w'.cell? ⟨E.bw,0,none⟩=some (.slice E.A E.n E.c)∧(w'.cell? ⟨K,0,none⟩=some (Aa Ab p)∧w'.cell? ⟨K,1,none⟩=some (Aa Ab q)∧w'.cell? ⟨K,2,none⟩=some (Aa Ab t)∧w'.cell? ⟨K,3,none⟩=some (Aa Ab v))) (first|with_reducible exact⟨C,D,F,G,I⟩|with_reducible exact⟨Bi C,Bi D,Bi F,Bi G,Bi I⟩) (first|(go_at_call 101;(with_reducible refine(nF E.A E.n E.c p q t v (v/2) fs E.l _ (m.o.b.pure (Co _)) (by omega) d0.o b9.o).mono ?_);rintro e w8 ⟨rfl,s⟩;have az:=B4 (Co w7) s;replace J:=Hd (B4 J.o az);replace m:=Hd (m.o.pure az);replace f:=Hd (f.o.pure az);clear C M D F G I;clear s az;have C:=m.o.c0;have M:=m.o.c2;have D:=Be f.o.1;have F:=Bc f.o.1;have G:=Bb f.o.1;have I:=Bf f.o.1));go_wp2_with fail;go_meet;rw [bl.o];exact⟨_,rfl,rfl,J.o⟩
     ·have d4:decide (1<v)=false:=decide_eq_false a6;have bl:=Hd (show decide (1<v∧fs=true)=false from decide_eq_false fun h=>a6 h.1);go_quiet (fail);go_wp2_with fail;go_meet;rw [bl.o];exact⟨_,rfl,rfl,below_drewN (Af _ _) _⟩
    case rest=>
    obtain⟨w8,rfl,rfl,s⟩:=hcut;replace B:=Hd (B.o.below s);replace m:=Hd (m.o.pure s);replace f:=Hd (f.o.pure s);clear C M D F G I;clear s;have C:=m.o.c0;have M:=m.o.c2;have D:=Be f.o.1;have F:=Bc f.o.1;have G:=Bb f.o.1;have I:=Bf f.o.1;by_cases hc:1<v∧fs=true
    ·have hd:decide (1<v∧fs=true)=true:=decide_eq_true hc;rw [hd];have z:res= .error a:=by
      have h:=W.o;rw [if_pos hc] at h;injection h with h
      exact h.symm
     subst z;clear hc hd;have f2:=m.o.frozen 2;have HN:=Hd (m.o.note a);go_wp2_with fail;refine bodyPost_ret (results_none rfl _ _ _) rfl ?_;exact⟨rfl,dm.o,g1,H1,HN.o.1,B.o.trans HN.o.2⟩
    have hd:decide (1<v∧fs=true)=false:=decide_eq_false hc;rw [hd];have P:=W.o;rw [if_neg hc] at P;replace W:=Hd P;clear P hc hd b9;go_upto_if 91 with fail
    go_cut [8,9] from 15 to 130 (fun _ _ wx=>∃wy,wy=wx∧Oi E (Dt E.l d) ⟨p,q,t,v⟩ (List.range (lsLen E.l p q t v)) res x K g w wx)
    case first=>
     by_cases h9:t=9
     ·have e9:(t==9)=true:=beq_iff_eq.2 h9;obtain⟨⟨kp,kq,kt,kv⟩,Z⟩:∃k,Ck E.l ⟨p,q,t,v⟩=k:=⟨_,rfl⟩;have T:H8 ⟨kp,kq,kt,kv⟩:=Z▸Vg E.l ⟨p,q,t,v⟩
      have P:=W.o;unfold Md at P;rw [if_pos h9,Z] at P;have hk:=Z;unfold Ck at hk;simp only [Rq.mk.injEq] at hk;obtain⟨al,am,an,ao⟩:=hk;obtain⟨ke,ap⟩:∃a,Hf E.l p q t v=a:=⟨_,rfl⟩;have HP:=Hd al;have ak:=Hd am;have HT:=Hd an;have HV:=Hd ao;have ai:=Hd ap;have aj:=Hd T;replace W:=Hd P;clear al am an ao ap Z T P h9;go_upto_region 13 with fail
      go_cut [8,9] (fun u7 u8 wx=>∃wy,wy=wx∧u8= Aa Ab ke∧∃k,u7= Adm k∧Bh wx k 70 (Adl kp kq kt kv)∧w8.heap.size≤k∧Below w8.heap.size w8 wx)
      case first=>
       have J:=Hd (Af w8.heap.size w8);have HL:=Hd m.o.b;obtain⟨Ah,nh,ch,hW,_⟩:=m.o.R;have HW:=Hd hW;have O:=Hd f.o.1;have d6:E.bw≠w8.heap.size:=by have:=HW.o.lt;omega
       have d7:K≠w8.heap.size:=by have:=O.o.lt;omega
       clear f B m hW;clear C M D F G I;have C:_=some (Value.slice E.A E.n E.c):=HW.o.cell 0;obtain ⟨D,F,G,I⟩:=O.o.c4;go_region_held3 (fun w'=>w'.cell? ⟨E.bw,0,none⟩=some (.slice E.A E.n E.c)∧(w'.cell? ⟨K,0,none⟩=some (Aa Ab p)∧w'.cell? ⟨K,1,none⟩=some (Aa Ab q)∧w'.cell? ⟨K,2,none⟩=some (Aa Ab t)∧w'.cell? ⟨K,3,none⟩=some (Aa Ab v))) ((with_reducible refine⟨?_,?_,?_,?_,?_⟩) <;>(repeat (first|with_reducible assumption|with_reducible refine B3 ?_|with_reducible refine C4 _ ?_|with_reducible refine J1 ?_ ?_)))
        (first|(go_at_call 102;(first|(with_reducible refine(Mg E.A E.n E.c p q t v kp kq kt kv ke E.l _ (HL.o.pure J.o.drew) (by omega) HP.o ak.o HT.o HV.o ai.o).mono ?_)|(with_reducible refine(Mg E.A E.n E.c p q t v kp kq kt kv ke E.l _ (HL.o.pure (J.o.alloc J.o.size _).drew) (by omega) HP.o ak.o HT.o HV.o ai.o).mono ?_));rintro e w3 ⟨rfl,s⟩;(first|(with_reducible replace J:=Hd (Ba J.o.drew s))|((with_reducible have V:=Hd ((Bh.new w8 70 (Adl 0 0 0 0)).drew.pure s));(with_reducible replace J:=Hd (Ba (J.o.alloc J.o.size _).drew s));obtain ⟨q0,q1,q2,q3⟩:=V.o.c4;obtain ⟨p0,p1,p2⟩:=V.o.f3;have p3:=V.o.frozen 3));replace HW:=Hd (HW.o.pure J.o);replace O:=Hd (O.o.pure J.o);clear C D F G I;have C:_=some (Value.slice E.A E.n E.c):=HW.o.cell 0;obtain ⟨D,F,G,I⟩:=O.o.c4;have d8:E.bw≠w3.heap.size:=(by have:=HW.o.lt;omega);have d9:K≠w3.heap.size:=(by have:=O.o.lt;omega);clear s))
       all_goals
        go_wp2_with fail;go_meet
        first
         |with_reducible exact⟨_,rfl,rfl,_,rfl,Bh.new _ _ _,J.o.size,J.o.alloc J.o.size _⟩
         |exact⟨_,rfl,rfl,_,rfl,(((V.o.set_ 0 _).set_ 1 _).set_ 2 _).set_ 3 _,Ae _,B6 _ J.o (Ae _) _ _ _ _⟩
      case rest=>
      obtain⟨w3,rfl,rfl,bk,rfl,hK,bo,s⟩:=hcut;have V:=Hd hK;replace B:=Hd (B.o.below s);replace m:=Hd (m.o.pure s);replace f:=Hd (f.o.pure s);clear C M D F G I;clear s;have C:=m.o.c0;have M:=m.o.c2;have D:=Be f.o.1;have F:=Bc f.o.1;have G:=Bb f.o.1;have I:=Bf f.o.1;clear hK bo;obtain ⟨k0,k1,k2,k3⟩:=V.o.c4;cases hg:Dt E.l d ⟨kp,kq,kt,kv⟩ (Kg H1) with
      |none=>
       have h:=W.o;rw [hg] at h;cases h
      |some r1=>
       have P:=W.o;rw [hg] at P;have bg:=Hd (cb.o g1 H1 x kp kq kt kv r1 w3 m.o hx S.o aj.o hg);replace W:=Hd P;clear P hg;go_wp2_with fail;go_at_call 64;refine bg.o.mono ?_;clear k0 k1 k2 k3;cases r1 with
       |error a1=>
        rintro e w9 ⟨rfl,bn,g2,H2,Q,L⟩;have z:res= .error a1:=by
         have h:=W.o;injection h with h
         exact h.symm
        subst z;have HO:=Hd (show Oi E (Dt E.l d) ⟨p,q,t,v⟩ (List.range (lsLen E.l p q t v)) (.error a1) x K g w w9 from⟨g2,H2,a1,Q,B.o.trans L,f.o.to L,.inr ⟨bn,rfl⟩⟩);clear C M D F G I;clear Q L B f m W bg;go_wp2_with fail;go_meet;exact⟨_,rfl,HO.o⟩
       |ok h2=>
        rintro e w9 ⟨rfl,g2,H2,cx,c3,Q,L⟩;have HO:=Hd (show Oi E (Dt E.l d) ⟨p,q,t,v⟩ (List.range (lsLen E.l p q t v)) res x K g w w9 from⟨g2,H2,x,Q,B.o.trans L,f.o.to L,.inl ⟨rfl,c3,by rw [cx];exact W.o⟩⟩);clear C M D F G I;clear Q L cx c3 B f m W bg;go_wp2_with fail;go_meet;exact⟨_,rfl,HO.o⟩
     ·have e9:(t==9)=false:=beq_eq_false_iff_ne.mpr h9;have P:=W.o;unfold Md at P;rw [if_neg h9] at P;have HO:=Hd (show Oi E (Dt E.l d) ⟨p,q,t,v⟩ (List.range (lsLen E.l p q t v)) res x K g w w8 from⟨g1,H1,x,m.o,B.o,f.o,.inl ⟨rfl,S.o,P⟩⟩);clear P h9;go_wp2_with fail;go_meet;exact⟨_,rfl,HO.o⟩
    case rest=>
    clear C M D F G I;obtain⟨w9,rfl,g2,H2,xx,hC,hT,hX,hM⟩:=hcut;replace m:=Hd hC;replace B:=Hd hT;replace f:=Hd hX;have HM:=Hd hM;clear hC hT hX hM W S;obtain⟨N,hN⟩:∃N,lsLen E.l p q t v=N:=⟨_,rfl⟩;obtain⟨el,cv⟩:∃N,Cm E.l p q t v=N:=⟨_,rfl⟩;have cq:=Qw E.l p q t v;rw [hN] at cq HM;have e3:N≤1000000:=by omega
    have dw:=Hd (show(lsLen E.l p q t v:Int)=(N:Int) by rw [hN]);have dn:=Hd cv;clear hN cv cq;have C:=m.o.c0;have M:=m.o.c2;have D:=Be f.o.1;have F:=Bc f.o.1;have G:=Bb f.o.1;have I:=Bf f.o.1;go_wp2_with fail;go_region_held3 (fun w'=>w'.cell? ⟨E.bw,0,none⟩=some (.slice E.A E.n E.c)∧(w'.cell? ⟨K,0,none⟩=some (Aa Ab p)∧w'.cell? ⟨K,1,none⟩=some (Aa Ab q)∧w'.cell? ⟨K,2,none⟩=some (Aa Ab t)∧w'.cell? ⟨K,3,none⟩=some (Aa Ab v))) (first|with_reducible exact⟨C,D,F,G,I⟩|with_reducible exact⟨Bi C,Bi D,Bi F,Bi G,Bi I⟩) (first|(go_at_call 103;(with_reducible refine(Y1 E.A E.n E.c p q t v N el E.l _ m.o.drew.b (by omega) dw.o dn.o).mono ?_);rintro e w5 ⟨rfl,s⟩;replace B:=Hd (B.o.drew.below s);replace m:=Hd (m.o.drew.pure s);replace f:=Hd (f.o.drew.pure s);clear C M D F G I;clear s;have C:=m.o.c0;have M:=m.o.c2;have D:=Be f.o.1;have F:=Bc f.o.1;have G:=Bb f.o.1;have I:=Bf f.o.1));go_wp2_with fail;clear C M D F G I;go_loopw [12] (fun u wr=>∃k:Nat,u= Aa Ab k∧k≤N∧Oi E (Dt E.l d) ⟨p,q,t,v⟩ ((List.range N).drop k) res x K g w wr) (fun u _=>N-(intOf u).toNat)
    case atStart=>exact⟨0,rfl,Nat.zero_le _,g2,H2,xx,m.o,B.o,f.o,by rw [List.drop_zero];exact HM.o⟩
    case round=>
     clear m B f HM;obtain⟨k,rfl,fb,g3,H3,xv,hC,hT,hX,hM⟩:=hrel;have m:=Hd hC;have B:=Hd hT;have f:=Hd hX;have HM:=Hd hM;clear hC hT hX hM;obtain⟨wv,rfl⟩:∃wo:World,wo=wr:=⟨_,rfl⟩;have C:=m.o.c0;have M:=m.o.c2;have D:=Be f.o.1;have F:=Bc f.o.1;have G:=Bb f.o.1;have I:=Bf f.o.1;by_cases hk:k<N
     ·obtain⟨⟨kp,kq,kt,kv⟩,Y⟩:∃y,Cq E.l ⟨p,q,t,v⟩ k=y:=⟨_,rfl⟩;have T:H8 ⟨kp,kq,kt,kv⟩:=Y▸Yu E.l ⟨p,q,t,v⟩ ci.o k
      have br:=Y;unfold Cq at br;simp only [Rq.mk.injEq] at br;obtain⟨al,am,an,ao⟩:=br;obtain⟨ke,ap⟩:∃a,Eu E.l p q t v k=a:=⟨_,rfl⟩;have ea:IntKind.i64.wrap ((k:Int)+1)=(k:Int)+1:=Ag _ (by omega);have HP:=Hd al;have ak:=Hd am;have HT:=Hd an;have HV:=Hd ao;have ai:=Hd ap;have aj:=Hd T;have be:=Hd Y;clear al am an ao ap Y T;go_upto_region 19 with fail
      go_cut [13,14] (fun u7 u8 wx=>∃wy,wy=wx∧u8= Aa Ab ke∧∃k,u7= Adm k∧Bh wx k 70 (Adl kp kq kt kv)∧wv.heap.size≤k∧Below wv.heap.size wv wx)
      case first=>
       have J:=Hd (Af wv.heap.size wv);have HL:=Hd m.o.b;obtain⟨Ah,nh,ch,hW,_⟩:=m.o.R;have HW:=Hd hW;have O:=Hd f.o.1;have d6:E.bw≠wv.heap.size:=by have:=HW.o.lt;omega
       have d7:K≠wv.heap.size:=by have:=O.o.lt;omega
       clear f B m hW;clear C M D F G I;have C:_=some (Value.slice E.A E.n E.c):=HW.o.cell 0;obtain ⟨D,F,G,I⟩:=O.o.c4;go_region_held3 (fun w'=>w'.cell? ⟨E.bw,0,none⟩=some (.slice E.A E.n E.c)∧(w'.cell? ⟨K,0,none⟩=some (Aa Ab p)∧w'.cell? ⟨K,1,none⟩=some (Aa Ab q)∧w'.cell? ⟨K,2,none⟩=some (Aa Ab t)∧w'.cell? ⟨K,3,none⟩=some (Aa Ab v))) ((with_reducible refine⟨?_,?_,?_,?_,?_⟩) <;>(repeat (first|with_reducible assumption|with_reducible refine B3 ?_|with_reducible refine C4 _ ?_|with_reducible refine J1 ?_ ?_)))
        (first|(go_at_call 104;(first|(with_reducible refine(N8 E.A E.n E.c p q t v k kp kq kt kv ke E.l _ (HL.o.pure J.o.drew) (by omega) HP.o ak.o HT.o HV.o ai.o).mono ?_)|(with_reducible refine(N8 E.A E.n E.c p q t v k kp kq kt kv ke E.l _ (HL.o.pure (J.o.alloc J.o.size _).drew) (by omega) HP.o ak.o HT.o HV.o ai.o).mono ?_));rintro e w3 ⟨rfl,s⟩;(first|(with_reducible replace J:=Hd (Ba J.o.drew s))|((with_reducible have V:=Hd ((Bh.new wv 70 (Adl 0 0 0 0)).drew.pure s));(with_reducible replace J:=Hd (Ba (J.o.alloc J.o.size _).drew s));obtain ⟨q0,q1,q2,q3⟩:=V.o.c4;obtain ⟨p0,p1,p2⟩:=V.o.f3;have p3:=V.o.frozen 3));replace HW:=Hd (HW.o.pure J.o);replace O:=Hd (O.o.pure J.o);clear C D F G I;have C:_=some (Value.slice E.A E.n E.c):=HW.o.cell 0;obtain ⟨D,F,G,I⟩:=O.o.c4;have d8:E.bw≠w3.heap.size:=(by have:=HW.o.lt;omega);have d9:K≠w3.heap.size:=(by have:=O.o.lt;omega);clear s))
       all_goals
        go_wp2_with fail;go_meet
        first
         |with_reducible exact⟨_,rfl,rfl,_,rfl,Bh.new _ _ _,J.o.size,J.o.alloc J.o.size _⟩
         |exact⟨_,rfl,rfl,_,rfl,(((V.o.set_ 0 _).set_ 1 _).set_ 2 _).set_ 3 _,Ae _,B6 _ J.o (Ae _) _ _ _ _⟩
      case rest=>
      obtain⟨w3,rfl,rfl,bk,rfl,hK,bo,s⟩:=hcut;have V:=Hd hK;replace B:=Hd (B.o.below s);replace m:=Hd (m.o.pure s);replace f:=Hd (f.o.pure s);clear C M D F G I;clear s;have C:=m.o.c0;have M:=m.o.c2;have D:=Be f.o.1;have F:=Bc f.o.1;have G:=Bb f.o.1;have I:=Bf f.o.1;clear hK bo;obtain ⟨k0,k1,k2,k3⟩:=V.o.c4;go_wp2_with fail;go_at_call 64;rcases HM.o with⟨U,bt,hme⟩|⟨U,z⟩
      ·rw [nE hk] at hme;unfold Ek at hme;rw [be.o] at hme;cases hg:Dt E.l d ⟨kp,kq,kt,kv⟩ (Kg H3) with
       |none=>rw [hg] at hme;cases hme
       |some r1=>
        rw [hg] at hme;refine(cb.o g3 H3 xv kp kq kt kv r1 w3 m.o (by omega) bt aj.o hg).mono ?_;have ax:=Hd hme;clear k0 k1 k2 k3 hme hg;cases r1 with
        |error a1=>
         rintro e w4 ⟨rfl,bn,g4,H4,Q,L⟩;have z:res= .error a1:=by
          have h:=ax.o;injection h with h
          exact h.symm
         have HO:=Hd (show Oi E (Dt E.l d) ⟨p,q,t,v⟩ ((List.range N).drop (k+1)) res x K g w w4 from⟨g4,H4,a1,Q,B.o.trans L,f.o.to L,.inr ⟨bn,z⟩⟩);clear C M D F G I;clear Q L B f m HM V z ax;go_wp2_with fail;go_roundw
         case rel=>exact⟨k+1,by go_num,hk,HO.o⟩
         case measure=>simp [intOf];omega
        |ok h'=>
         rintro e w4 ⟨rfl,g4,H4,cy,c5,Q,L⟩;have HO:=Hd (show Oi E (Dt E.l d) ⟨p,q,t,v⟩ ((List.range N).drop (k+1)) res x K g w w4 from⟨g4,H4,xv,Q,B.o.trans L,f.o.to L,.inl ⟨U,c5,by rw [cy];exact ax.o⟩⟩);clear C M D F G I;clear Q L B f m HM V cy c5 ax;go_wp2_with fail;go_roundw
         case rel=>exact⟨k+1,by go_num,hk,HO.o⟩
         case measure=>simp [intOf];omega
      ·refine(zL E g3 H3 xv kp kq kt kv w3 m.o U).mono ?_;clear k0 k1 k2 k3;rintro e w4 ⟨rfl,s⟩;have HO:=Hd (show Oi E (Dt E.l d) ⟨p,q,t,v⟩ ((List.range N).drop (k+1)) res x K g w w4 from⟨g3,H3,xv,m.o.pure s,B.o.below s,f.o.pure s,.inr ⟨U,z⟩⟩);clear C M D F G I;clear s B f m HM V z;go_wp2_with fail;go_roundw
       case rel=>exact⟨k+1,by go_num,hk,HO.o⟩
       case measure=>simp [intOf];omega
     ·have a5:k=N:=by omega
      have bb:kS E g x w wv res:=by
       subst a5;rcases HM.o with⟨U,bt,hme⟩|⟨U,z⟩
       ·rw [List.drop_eq_nil_of_le (by rw [List.length_range];exact Ae _)] at hme;unfold Ek at hme;injection hme with hme
        subst hme;exact⟨g3,H3,rfl,bt,U▸m.o,B.o⟩
       ·subst z;exact⟨U,g3,H3,m.o,B.o⟩
      have HO:=Hd bb;have hd:decide (k<N)=false:=decide_eq_false (by omega);clear hk a5 bb m B f HM;clear C M D F G I;go_wp2_with fail;go_end0;exact⟨rfl,HO.o⟩
theorem rW(E:Lc):∀d,tA E (Dt E.l d)
 |0=>fun _ _ _ _ _ _ _ _ _ _ _ _ _ h=>by cases h
 |d+1=>zM E d (rW E d)
theorem iK(A:Option Addr)(n c:Nat)(fuel:Int)(l:List UInt8)(w:World)(hl:Ca w A n l)(hc:n≤c)(hn:n≤4294967296)(hf:fuel≤100000000):
  Calls Ad 54 #[.slice A n c,Aa Ab fuel] w fun e w'=>∃A' k c',e= .returned (.tuple #[.slice A' k c',Aa Ab (Dg l fuel)])∧F5 w' w.heap.size A' k c' (F2 l fuel)∧Below w.heap.size w w':=by
 have am:=hl.1;have Q:=Hd hl;clear hl;by_cases P:D6 l=0
 ·obtain⟨C,h3⟩:=Pz P;have ab:=Hd C;have HR:=Hd P;clear C P;go_enter func54,ntmps54;go_wp2_with fail;go_at_call 62;refine(Rb A n c l _ Q.o (by omega)).mono ?_;rintro e m ⟨rfl,M⟩;rw [HR.o];obtain⟨a,ha⟩:∃a,(C1 l).1=a:=⟨_,rfl⟩;obtain⟨b,x⟩:∃a,(C1 l).2.1=a:=⟨_,rfl⟩;obtain⟨d,hd⟩:∃a,(C1 l).2.2.1=a:=⟨_,rfl⟩;obtain⟨f,B⟩:∃a,(C1 l).2.2.2=a:=⟨_,rfl⟩;rw [ha,x,hd,B];replace Q:=Hd (Q.o.pure M);have j:=Hd M;have an:Dm l=⟨a,b,d,f⟩:=by unfold Dm;rw [ha,x,hd,B]
  rw [ha,x,hd,B] at ab;have az:=Hd an;clear M ha x hd B an;go_upto_region 5 with fail
  obtain⟨E,v⟩:∃E:Il,E=⟨m.heap.size,m.heap.size+1+1,m.heap.size+1,A,n,c,l⟩:=⟨_,rfl⟩;have C:E.Ok:=by
   subst v;refine⟨?_,?_,?_,hc,hn⟩ <;>(try (simp only;omega))
   intro ad s;obtain⟨b',bf,e,a2⟩:=Q.o.some_ Cn (by omega) (by omega);simp only at s;rw [e] at s;injection s with s
   subst s;exact a2
  obtain⟨W,S⟩:∃W,W=(m.alloc (.cells (Adl a b d f) 70)).alloc (.cells #[.slice A n c,Aa Ab fuel,.slice none 0 0,.slice none 0 0] 123):=⟨_,rfl⟩;have u:W.heap.size=m.heap.size+1+1:=by subst S;simp
  have N:Below m.heap.size m W:=by
   subst S;exact((Af _ _).alloc (Ae _) _).alloc (by simp <;>omega) _
  have hX:G0 E (none,none) W m.heap.size 70 (Adl a b d f):=by
   refine⟨?_,?_⟩
   ·subst S;exact(Bh.new m _ _).alloc _
   ·subst v;refine⟨?_,?_,?_⟩
    ·simp only;omega
    ·simp
    ·simp
  have hC:D9 E (none,none) ⟨fuel,[],[]⟩ W:=by
   refine⟨C,?_,⟨none,0,0,none,0,0,?_,Own.nil _ _,Own.nil _ _,rfl,rfl⟩,?_⟩
   ·subst v;exact Q.o.pure N
   ·subst v S;exact Bh.new_ (by simp) _ _
   ·subst v;rw [u];exact Ae _
  have ak:E.bw=m.heap.size+1:=by rw [v]
  have ai:E.l=l:=by rw [v]
  have af:E.B0=m.heap.size:=by rw [v]
  rw [←S,←ak];have ax:=Hd (show w.heap.size≤E.B0 by rw [af];exact j.o.size);have aa:=Hd (show w.heap.size≤E.B2 by have:=j.o.size;rw [v];simp only;omega);have a0:=Hd (j.o.trans (N.mono j.o.size));have F:=Hd hC;have av:=Hd hC;have g:=Hd hX;have ae:=Hd (show Ft l fuel=((Bk.mk fuel [] []).tell ((l.length:Int)-1) l.length 14).tell ((l.length:Int)-2) ((l.length:Int)-1) 8 from rfl);have Y:=Hd (Ee.refl E (none,none) W);clear S u N hX hC ak af v;have a9:IntKind.i64.wrap ((n:Int)-1)=(n:Int)-1:=Ag _ (by omega);have ba:IntKind.i64.wrap ((n:Int)-2)=(n:Int)-2:=Ag _ (by omega);generalize m.heap.size=br at g⊢;have T:=Be g.o.1;have U:=Bc g.o.1;have V:=Bb g.o.1;have X:=Bf g.o.1;obtain⟨W0,rfl⟩:∃W0:World,W0=W:=⟨_,rfl⟩;have j:=Y;clear Y;go_wp2_with fail;go_at_call 88
  with_reducible refine(D7 E _ _ ((n:Int)-1) n 14 _ F.o (by omega) (by simp)).mono ?_
  rintro e w2 ⟨rfl,g2,ag,J⟩;replace j:=Hd (j.o.trans J);replace g:=Hd (g.o.to J);replace F:=Hd ag;clear T U V X;clear ag J;have T:=Be g.o.1;have U:=Bc g.o.1;have V:=Bb g.o.1;have X:=Bf g.o.1;go_wp2_with fail;go_at_call 88
  with_reducible refine(D7 E _ _ ((n:Int)-2) ((n:Int)-1) 8 _ F.o (by omega) (by unfold Bk.tell;split <;>simp)).mono ?_
  rintro e w3 ⟨rfl,g3,ah,K⟩;replace j:=Hd (j.o.trans K);replace g:=Hd (g.o.to K);replace F:=Hd ah;clear T U V X;clear ah K;have T:=Be g.o.1;have U:=Bc g.o.1;have V:=Bb g.o.1;have X:=Bf g.o.1;have ao:((Bk.mk fuel [] []).tell ((n:Int)-1) n 14).tell ((n:Int)-2) ((n:Int)-1) 8=Ft l fuel:=by rw [ae.o,am]
  have D:(Ft l fuel).left=fuel:=by unfold Ft;rw [Ef,Ef]
  have ap:(Ft l fuel).had=[]:=by unfold Ft;rw [Ga,Ga]
  have a4:(Ft l fuel).o.length≤2:=by
   unfold Ft;have h1:=Od (Bk.tell ⟨fuel,[],[]⟩ ((l.length:Int)-1) l.length 14) ((l.length:Int)-2) ((l.length:Int)-1) 8;have h2:=Od ⟨fuel,[],[]⟩ ((l.length:Int)-1) l.length 14;simp only [List.length_nil] at h2;omega
  have u:(Ft l fuel).size≤900000000:=by
   unfold Bk.size;rw [D];omega
  have al:(Ft l fuel).had.length+(Ft l fuel).left.toNat≤900000000:=by
   rw [D,ap];simp only [List.length_nil];omega
  rw [ao] at F;obtain⟨y,hy⟩:∃y,Th l fuel=y:=⟨_,rfl⟩;have t:Cj E.l (fuel.toNat+1) ⟨a,b,d,f⟩ (Ft l fuel)=y:=by rw [ai,←az.o];exact hy
  have O:=Uc E (fuel.toNat+1) g3 (Ft l fuel) a b d f w3 F.o (by rw [D];omega) u al (by rw [ai];exact ab.o);rw [t] at O;have i:Dg l fuel=y.2:=by unfold Dg;rw [if_neg (by simp [HR.o]),hy]
  have h:F2 l fuel=if y.2≠0 then [] else Db y.1.o:=by unfold F2;rw [i,hy]
  have aw:=Hd O;have p:=Hd i;have q:=Hd h;clear ao D ap a4 u al t O i h hy ae;go_wp2_with fail;go_at_call 89;refine aw.o.mono ?_;rintro e w4 ⟨rfl,g4,I,L⟩;obtain⟨s4,er⟩:=y;simp only at I q p⊢;replace j:=Hd (j.o.trans L);replace g:=Hd (g.o.to L);replace F:=Hd I;clear T U V X;clear I L;have T:=Be g.o.1;have U:=Bc g.o.1;have V:=Bb g.o.1;have X:=Bf g.o.1;have aj:Below w.heap.size w w4:=a0.o.trans ((j.o.belowB av.o).mono ax.o);have Z:=Hd aj;clear aj;by_cases z:er=0
  ·subst z;have h:F2 l fuel=Db s4.o:=by rw [q.o];rfl
   have r:=Hd h;obtain⟨Ah,nh,ch,Al,nl,cl,G,_,H,_⟩:=F.o.R;have v3:_=some (Value.slice Al nl cl):=G.cell 3;have ay:=Hd H;clear h H G;go_wp2_with fail;go_ret2;rw [p.o,r.o];exact⟨_,nl,cl,rfl,ay.o.rebase aa.o,Z.o⟩
  ·have a3:(er != 0)=true:=by simpa using z
   have h:F2 l fuel=[]:=by rw [q.o,if_pos z]
   have r:=Hd h;clear h z;go_wp2_with fail;go_ret2;rw [p.o,r.o];exact⟨none,0,0,rfl,Own.nil _ _,Z.o⟩
 ·have a3:(D6 l != 0)=true:=by simpa using P
  have i:Dg l fuel=D6 l:=by unfold Dg;rw [if_pos P]
  have h:F2 l fuel=[]:=by unfold F2;rw [i,if_pos P]
  have p:=Hd i;have q:=Hd h;clear i h P;go_enter func54,ntmps54;go_wp2_with fail;go_at_call 62;refine(Rb A n c l _ Q.o (by omega)).mono ?_;rintro e m ⟨rfl,M⟩;have j:=Hd (M.alloc M.size (.cells #[Aa Ab (C1 l).1,Aa Ab (C1 l).2.1,Aa Ab (C1 l).2.2.1,Aa Ab (C1 l).2.2.2] 70));clear M;go_wp2_with fail;go_ret2;rw [p.o,q.o];exact⟨none,0,0,rfl,Own.nil _ _,j.o⟩
theorem Nk(A:Option Addr)(n c:Nat)(l:List UInt8)(w:World)(h:Ca w A n l)(hc:n≤c):
  Calls Ad 28 #[.slice A n c] w fun e w'=>∃A' n' c',e= .returned (.slice A' n' c')∧n'≤1500∧F4 w' w.heap.size A' n' c' (l.take 1500)∧Below w.heap.size w w':=by
 obtain⟨M,f,s,a,k⟩:=pF A n c 1500 1500 rfl hc;have t:=h.1;have j:l.take 1500=l.take M:=by
  by_cases u:n≤1500
  ·have:M=n:=by split at a <;>omega
   rw [this,Ax (by omega),Ax (by omega)]
  ·have:M=1500:=by split at a <;>omega
   rw [this]
 rw [j];have g:min (n:Int) 1500=M:=by split at a <;>omega
 have i:=Hd (h.take Cn f);clear h t j;go_enter func28,ntmps28;go_wp2_with fail;go_at_call 12;refine(Mw A M c (l.take M) _ i.o (by omega)).mono ?_;rintro e v ⟨m,n1,r,rfl,b,d⟩;obtain rfl:M=n1:=by rw [←b.1,i.o.1]
 have q:=Hd b;have p:=Hd d;clear b d;go_wp2_with fail;go_ret;exact⟨m,M,r,rfl,by omega,q.o,p.o⟩
theorem J5(A:Option Addr)(n c:Nat)(fuel a e0:Int)(l:List UInt8)(w:World)(hl:Ca w A n l)(hc:n≤c)(hn:n≤4294967296)(hf:fuel≤100000000)(h:B5 l fuel=(a,e0)):
  Calls Ad 29 #[.slice A n c,Aa Ab fuel] w (Adh (.tuple #[Aa Ab a,Aa Ab e0]) w):=by
 have:=Mo A n c fuel l w hl hc hn hf;rw [h] at this;exact this
end Go.Proofs.YtejpbijeifjdeaaGreat
