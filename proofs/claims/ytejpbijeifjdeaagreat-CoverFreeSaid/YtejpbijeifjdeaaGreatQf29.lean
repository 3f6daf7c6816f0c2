/- Parts of the proof. -/
import Derived.Test.YtejpbijeifjdeaaGreatQf28
set_option maxHeartbeats 2000000
set_option maxRecDepth 100000
open Go.Value renaming int→Aa
open Go.IntKind renaming i64→Ab
open Nat renaming le_refl→Ae,zero_add→Av
open Go.RowKit.Below renaming refl→Af
open List renaming getElem?_eq_getElem→Ag,length_append→Ah,append_assoc→Am,length_cons→Au,length_nil→Aw,nil_append→A6
open Go.IntWalk renaming i64_in→Ao
open Go.Proofs.Tryz
open Go.Proofs.Tryz renaming prog→Ad
namespace Go.Proofs.YtejpbijeifjdeaaGreat
open Go.RowKit Go.Acc
variable {w:World}{l L:List UInt8}{d n:Nat}{r:Rq}{t:Int}{T:Tr}{A:Option Addr}{log:List P3}
theorem sY(B g n c:Nat)(l:List P3)(w:World)(h:Ki w B (some ⟨g,0,none⟩) n c l)(hn:n≤2147483648):
  Calls Ad 46 #[.slice (some ⟨g,0,none⟩) n c,.func (.func 47) #[] #[]] w fun e w'=>∃k,e= .returned (.slice (some ⟨g,0,none⟩) k c)∧Ki w' B (some ⟨g,0,none⟩) k c (Js l)∧Fr (fun k=>k=g) w w':=by
 have q:=Hd h;clear h;go_enter func46,ntmps46;go_wp2_with fail;go_at_call 83;refine(oL B g n c l _ q.o hn).mono ?_;rintro e u ⟨rfl,m,j,p,a,b⟩;have r:=Hd j;have s:=Hd p;have f:=Hd a;have d:=Hd b;clear j p a b;go_wp2_with fail;go_at_call 84;refine(bT B g n c m.toArray _ f.o hn).mono ?_;rintro e v ⟨k,t,rfl,a,b⟩;have i:=X5 l m r.o s.o;rw [i] at a;have f:=Hd a;have d:=Hd (d.o.trans b (fun _ _ h=>h));clear t a b i;go_wp2_with fail;go_ret;exact⟨k,rfl,f.o,d.o⟩
theorem rL{g:Nat}(h:w.heap.size=g)(o:Obj):(w.alloc o).heap[g]?=some o:=by subst h;exact heap_alloc_new w o
theorem Abn(h:Gf l=0):Pk l.length ⟨(Fx l).1,(Fx l).2.1,(Fx l).2.2.1,(Fx l).2.2.2⟩∧3≤l.length:=by
 obtain⟨x,a⟩:∃x,l.getD (l.length-1) 0=x:=⟨_,rfl⟩;obtain⟨y,b⟩:∃x,l.getD (l.length-2) 0=x:=⟨_,rfl⟩;have h3:¬l.length<3:=fun h3=>by rw [Yk h3] at h;cases h
 have hw:Bz (x.toNat:Int)=true:=by
  cases hw:Bz (x.toNat:Int) with
  |true=>rfl
  |false=>rw [Yl a hw] at h;cases h
 have hu:Iv y=0:=by
  refine Decidable.byContradiction fun hu=>?_
  rw [kR h3 a b hw hu] at h;exact hu h
 have h4:=kS h3 a b hw hu;rw [h] at h4;have c:=fO a b h;rw [c];have d:=Cr.1 hw;refine⟨⟨?_,?_,?_,?_⟩,by omega⟩
 ·simp only;split at h4
  ·cases h4
  ·omega
 ·simp only;omega
 ·simp only;omega
 ·simp only;omega
def Jr(l:List UInt8):Rq:=⟨(Fx l).1,(Fx l).2.1,(Fx l).2.2.1,(Fx l).2.2.2⟩
def Gq(l:List UInt8)(fuel:Int):Bw:=(Bw.tell ⟨fuel,[],[]⟩ ((l.length:Int)-1) l.length 14).tell ((l.length:Int)-2) ((l.length:Int)-1) 8
def K0(l:List UInt8)(fuel:Int):Bw×Int:=Ct l (fuel.toNat+1) (Jr l) (Gq l fuel)
def Ew(l:List UInt8)(fuel:Int):Int:=if Gf l≠0 then Gf l else(K0 l fuel).2
def E8(l:List UInt8)(fuel:Int):List P3:=if Ew l fuel≠0 then [] else Js (K0 l fuel).1.o
theorem Xi(A:Option Addr)(n c:Nat)(fuel:Int)(l:List UInt8)(w:World)(hl:Cv w A n l)(hc:n≤c)(hn:n≤4294967296)(hf:fuel≤100000000):
  Calls Ad 17 #[.slice A n c,Aa Ab fuel] w fun e w'=>∃A' k c',e= .returned (.tuple #[.slice A' k c',Aa Ab (Ew l fuel)])∧Ki w' w.heap.size A' k c' (E8 l fuel)∧Below w.heap.size w w':=by
 have a7:=hl.1;have HI:=Hd hl;clear hl;by_cases hr:Gf l=0
 ·obtain⟨L,h3⟩:=Abn hr;have T:=Hd L;have HR:=Hd hr;clear L hr;go_enter func17,ntmps17;go_wp2_with fail;go_at_call 43;refine(Z1 A n c l _ HI.o (by omega)).mono ?_;rintro e w1 ⟨rfl,Z⟩;rw [HR.o];obtain⟨a,ha⟩:∃a,(Fx l).1=a:=⟨_,rfl⟩;obtain⟨b,H⟩:∃a,(Fx l).2.1=a:=⟨_,rfl⟩;obtain⟨d,hd⟩:∃a,(Fx l).2.2.1=a:=⟨_,rfl⟩;obtain⟨f,K⟩:∃a,(Fx l).2.2.2=a:=⟨_,rfl⟩;rw [ha,H,hd,K];replace HI:=Hd (HI.o.pure Z);have r:=Hd Z;have a8:Jr l=⟨a,b,d,f⟩:=by unfold Jr;rw [ha,H,hd,K]
  rw [ha,H,hd,K] at T;have aw:=Hd a8;clear Z ha H hd K a8;have h0:=run_makeMap (P:=Ad) 74;go_upto_region 7 with fail
  obtain⟨E,j⟩:∃E:Jn,E=⟨w1.heap.size,w1.heap.size+1+1+1+1,w1.heap.size+1+1+1,w1.heap.size+1+1,w1.heap.size+1,A,n,c,l⟩:=⟨_,rfl⟩;have L:E.Ok:=by
   subst j;refine⟨?_,?_,?_,?_,?_,?_,?_,?_,?_,?_,hc,hn⟩ <;>(try (simp only;omega))
   intro ad z;obtain⟨b',cb,e,bs⟩:=HI.o.some_ D1 (by omega) (by omega);simp only at z;rw [e] at z;injection z with z
   subst z;exact bs
  obtain⟨W,N⟩:∃W,W=(((w1.alloc (.cells (Afg a b d f) 70)).alloc (.cells #[.slice none 0 0] 42)).alloc (.map #[] 0)).alloc (.cells #[.slice A n c,Aa Ab fuel,.map (some (w1.heap.size+1+1)),.func (.func 44) #[] #[.pointer (some ⟨w1.heap.size+1,0,none⟩)]] 77):=⟨_,rfl⟩;have q:W.heap.size=w1.heap.size+1+1+1+1:=by subst N;simp
  have I:Below w1.heap.size w1 W:=by
   subst N;exact((((Af _ _).alloc (Ae _) _).alloc (by simp <;>omega) _).alloc (by simp <;>omega) _).alloc (by simp <;>omega) _
  have hX:Jo E none W w1.heap.size 70 (Afg a b d f):=by
   refine⟨?_,?_⟩
   ·subst N;exact(((Bk.new w1 _ _).alloc _).alloc _).alloc _
   ·subst j;refine⟨?_,?_,?_,?_⟩ <;>(try (simp only;omega))
    simp
  have hC:Gb E none ⟨fuel,[],[]⟩ W:=by
   refine⟨L,?_,?_,?_,?_,?_⟩
   ·subst j;exact HI.o.pure I
   ·subst j N;exact Bk.new_ (by simp) _ _
   ·subst j N;exact⟨#[],0,(Below.heap_alloc _ _ _ (by simp)).trans (rL (by simp) _),rfl,by simp⟩
   ·subst j;refine⟨none,0,0,?_,Own.nil _ _,rfl⟩;subst N;exact((Bk.new_ (by simp) _ _).alloc _).alloc _
   ·subst j;rw [q];exact Ae _
  have a3:E.bl=w1.heap.size+1:=by rw [j]
  have a5:E.bw=w1.heap.size+1+1+1:=by rw [j]
  have a0:E.l=l:=by rw [j]
  have G:E.B0=w1.heap.size:=by rw [j]
  have a4:E.bm=w1.heap.size+1+1:=by rw [j]
  have bo:E.A=A:=by rw [j]
  have bq:E.n=n:=by rw [j]
  have bp:E.c=c:=by rw [j]
  rw [←N,←a5,←a4,←a3];rw [←bo,←bq,←bp];have R:E.B0≤W.heap.size:=by rw [q,G];omega
  have bf:=Hd (show w.heap.size≤E.B0 by rw [G];exact r.o.size);have M:=Hd (show w.heap.size≤E.B2 by have:=r.o.size;rw [j];simp only;omega);have bk:=Hd (r.o.trans (I.mono r.o.size));have s:=Hd hC;have bd:=Hd hC;have h:=Hd hX;have bb:=Hd G;have HE:=Hd j;have ax:=Hd (show Gq l fuel=((Bw.mk fuel [] []).tell ((l.length:Int)-1) l.length 14).tell ((l.length:Int)-2) ((l.length:Int)-1) 8 from rfl);have b5:=Hd I;have au:=Hd (Et.refl E none W);have b7:=Hd R;clear N q I hX hC a3 a5 a4 G j R h0;have b3:IntKind.i64.wrap ((n:Int)-1)=(n:Int)-1:=Ao _ (by omega);have b4:IntKind.i64.wrap ((n:Int)-2)=(n:Int)-2:=Ao _ (by omega);generalize w1.heap.size=br at h⊢;obtain⟨c0,c1,c2,c3⟩:=s.o.cells;have x0:=B9 h.o.1;have x1:=B7 h.o.1;have x2:=B6 h.o.1;have x3:=Ca h.o.1;obtain⟨W0,rfl⟩:∃W0:World,W0=W:=⟨_,rfl⟩;have r:=au;clear au;have bx:=Hd bb.o;go_wp2_with fail;go_at_call 44
  with_reducible refine(Ht ((n:Int)-1) n 14 s.o (by simp)).mono ?_
  rintro e w2 ⟨rfl,g2,ay,V⟩;replace r:=Hd (r.o.trans V);replace h:=Hd (h.o.to V);replace s:=Hd ay;clear c0 c1 c2 c3 x0 x1 x2 x3;clear ay V;obtain⟨c0,c1,c2,c3⟩:=s.o.cells;have x0:=B9 h.o.1;have x1:=B7 h.o.1;have x2:=B6 h.o.1;have x3:=Ca h.o.1;go_wp2_with fail;go_at_call 44
  with_reducible refine(Ht ((n:Int)-2) ((n:Int)-1) 8 s.o (by unfold Bw.tell;split <;>simp)).mono ?_
  rintro e w3 ⟨rfl,g3,az,X⟩;replace r:=Hd (r.o.trans X);replace h:=Hd (h.o.to X);replace s:=Hd az;clear c0 c1 c2 c3 x0 x1 x2 x3;clear az X;obtain⟨c0,c1,c2,c3⟩:=s.o.cells;have x0:=B9 h.o.1;have x1:=B7 h.o.1;have x2:=B6 h.o.1;have x3:=Ca h.o.1;have ae:((Bw.mk fuel [] []).tell ((n:Int)-1) n 14).tell ((n:Int)-2) ((n:Int)-1) 8=Gq l fuel:=by rw [ax.o,a7]
  have af:(Gq l fuel).left=fuel:=by unfold Gq;rw [Iz,Iz]
  have ag:(Gq l fuel).o=[((n:Int)-1,(n:Int),14),((n:Int)-2,(n:Int)-1,8)]:=by
   rw [←ae];unfold Bw.tell;rw [if_pos (by omega),if_pos (by omega)];rfl
  have q:(Gq l fuel).size≤900000000:=by
   unfold Bw.size;rw [ag,af];simp only [Au,Aw];omega
  rw [ae] at s;obtain⟨y,hy⟩:∃y,K0 l fuel=y:=⟨_,rfl⟩;have D:Ct E.l (fuel.toNat+1) ⟨a,b,d,f⟩ (Gq l fuel)=y:=by rw [a0,←aw.o];exact hy
  have B:=jS l (fuel.toNat+1) (Jr l) (Gq l fuel) (by rw [aw.o];exact T.o);rw [show(Ct l (fuel.toNat+1) (Jr l) (Gq l fuel))=y from hy] at B;have aa:=Wd E (fuel.toNat+1) g3 (Gq l fuel) a b d f w3 s.o (by rw [af];omega) q (by rw [a0];exact T.o);rw [D] at aa;have p:Ew l fuel=y.2:=by unfold Ew;rw [if_neg (by simp [HR.o]),hy]
  have i:E8 l fuel=if y.2≠0 then [] else Js y.1.o:=by unfold E8;rw [p,hy]
  have be:=Hd aa;have HY:=Hd (show(Ct l (fuel.toNat+1) (Jr l) (Gq l fuel)).1=y.1 by rw [←hy];rfl);have u:=Hd p;have v:=Hd i;have ar:=Hd B;have bi:=Hd ag;have bj:=Hd q;clear ae af ag q D B aa p i hy ax;go_wp2_with fail;go_at_call 45;refine be.o.mono ?_;rintro e w4 ⟨rfl,g4,U,Y⟩;obtain⟨s4,er⟩:=y;simp only at U v ar u HY⊢;replace r:=Hd (r.o.trans Y);replace h:=Hd (h.o.to Y);replace s:=Hd U;clear c0 c1 c2 c3 x0 x1 x2 x3;clear U Y;obtain⟨c0,c1,c2,c3⟩:=s.o.cells;have x0:=B9 h.o.1;have x1:=B7 h.o.1;have x2:=B6 h.o.1;have x3:=Ca h.o.1;have C:Below w.heap.size w w4:=by
   exact bk.o.trans ((r.o.belowB bd.o).mono bf.o)
  have S:=Hd C;clear C;by_cases J:er=0
  ·subst J;have i:E8 l fuel=Js s4.o:=by rw [v.o];rfl
   have x:=Hd i;obtain⟨A',n',c',Q,m,hg⟩:=s.o.O;obtain⟨t,ht,_⟩:=ar.o;rw [bi.o] at ht;have F:s4.o.length=n':=m.1;have bt:1≤n':=by rw [←F,ht];simp
   have bu:n'≤2147483648:=by
    have h1:=((Sf l (fuel.toNat+1)) (Jr l) (Gq l fuel)).1.2;have h2:=Il s4;have h3:(Ct l (fuel.toNat+1) (Jr l) (Gq l fuel)).1=s4:=HY.o;rw [h3] at h1;have:=bj.o;omega
   have hA:∃g,A'=some ⟨g,0,none⟩∧E.B2≤g:=by
    cases A' with
    |none=>exact absurd (m.is.none_ Kd (by omega)).2 (by omega)
    |some ad=>
     obtain⟨h1,h2,_⟩:=m.addr ad rfl;exact⟨ad.block,by rw [h1],h2⟩
   obtain⟨g,rfl,a6⟩:=hA;have v0:_=some (Value.slice (some ⟨g,0,none⟩) n' c'):=Q.cell 0;have bh:=Hd m;have HG:=Hd a6;clear i ht F bt hg a6 m Q;go_wp2_with fail;go_at_call 46;refine(sY E.B2 g n' c' s4.o _ bh.o bu).mono ?_;rintro e w5 ⟨k,rfl,a2,a1⟩;have bg:=Hd a2;have C:Below w.heap.size w w5:=by
    refine S.o.trans (a1.belowB ?_ S.o.size);rintro k hk rfl;have:=M.o;have:=HG.o;omega
   have av:=Hd C;clear a2 a1 C;go_wp2_with fail;go_ret2;rw [u.o,x.o];exact⟨_,k,c',rfl,bg.o.rebase M.o,av.o⟩
  ·have bv:(er != 0)=true:=by simpa using J
   have i:E8 l fuel=[]:=by rw [v.o,if_pos J]
   have x:=Hd i;clear i J;go_wp2_with fail;go_ret2;rw [u.o,x.o];exact⟨none,0,0,rfl,Own.nil _ _,S.o⟩
 ·have bv:(Gf l != 0)=true:=by simpa using hr
  have p:Ew l fuel=Gf l:=by unfold Ew;rw [if_pos hr]
  have i:E8 l fuel=[]:=by unfold E8;rw [p,if_pos hr]
  have u:=Hd p;have v:=Hd i;clear p i hr;go_enter func17,ntmps17;go_wp2_with fail;go_at_call 43;refine(Z1 A n c l _ HI.o (by omega)).mono ?_;rintro e w1 ⟨rfl,Z⟩;have r:=Hd (Z.alloc Z.size (.cells #[Aa Ab (Fx l).1,Aa Ab (Fx l).2.1,Aa Ab (Fx l).2.2.1,Aa Ab (Fx l).2.2.2] 70));clear Z;go_wp2_with fail;go_ret2;rw [u.o,v.o];exact⟨none,0,0,rfl,Own.nil _ _,r.o⟩
theorem qH{a b:List Tr}(h:a.Perm b):Tr.cntL a=Tr.cntL b:=by
 induction h with
 |nil=>rfl
 |cons x _ ih=>rw [Tr.cntL,Tr.cntL,ih]
 |swap x y l=>rw [Tr.cntL,Tr.cntL,Tr.cntL,Tr.cntL];omega
 |trans _ _ h1 h2=>exact h1.trans h2
mutual
theorem bO:∀(t:Tr),Ft t→(By t).cnt=t.cnt
 | .mk k n u s ks l,h=>by
  cases h with
  |mk h1 h2 h3 h4 hl=>
   have f:=Y5 l hl;simp only [Ep,Bool.and_eq_true,decide_eq_true_eq] at h1;obtain⟨⟨⟨_,a⟩,_⟩,_⟩:=h1;rw [By];by_cases b:k=17
   ·rw [if_pos b];have a:ks.length=l.length:=a b;have g:(Cp l).length=l.length:=by rw [Cx,List.length_map]
    have e:=Eo (ks.zip (Cp l));have c:=(e.map (·.1)).length_eq;have d:=qH (e.map (·.2));rw [List.map_fst_zip (by omega)] at c;rw [List.map_snd_zip (by omega)] at d;rw [Tr.cnt,Tr.cnt,c,d,f]
   ·rw [if_neg b,Tr.cnt,Tr.cnt,f]
theorem Y5:∀(l:List Tr),(∀t∈l,Ft t)→Tr.cntL (Cp l)=Tr.cntL l
 | [],_=>rfl
 |t::r,h=>by
  rw [Cp,Tr.cntL,Tr.cntL,bO t (h t (by simp)),Y5 r (fun x hx=>h x (by simp [hx]))]
end
mutual
theorem jR:∀(t:Tr) (d:Nat),Ft t→t.cnt+1≤3*(Tr.pre d t).length
 | .mk k n u s ks l,d,h=>by
  cases h with
  |mk h1 h2 h3 h4 hl=>
   have ih:=bM l (d+1) hl;simp only [Ep,Bool.and_eq_true,decide_eq_true_eq] at h1;obtain⟨⟨⟨_,glen⟩,_⟩,_⟩:=h1;have glen:k=17→ks.length=l.length:=glen;rw [Tr.pre,Tr.cnt,Au];split
   ·rename_i hk;have:=glen hk;omega
   ·omega
theorem bM:∀(l:List Tr) (d:Nat),(∀t∈l,Ft t)→Tr.cntL l+l.length≤3*(Tr.pre.Tr.preL d l).length
 | [],_,_=>by simp [Tr.cntL]
 |t::r,d,h=>by
  have h1:=jR t d (h t (by simp));have h2:=bM r d (fun x hx=>h x (by simp [hx]));simp only [Tr.cntL,Tr.pre.Tr.preL,Ah,Au];omega
end
theorem Qj.more{go:Rq→Bw→Bw×Int}{m:Nat}(h:Qj go d n r)(hm:n≤m):Qj go d m r:=by
 intro s h1 h2;obtain⟨a,b,c⟩:=h s (by omega) h2;exact⟨a,by omega,c⟩
theorem Yq:∀(c:List Tr) (b:Nat) (g:Nat→Nat),(∀i x,c[i]?=some x→g (b+i)=x.cnt)→((List.range' b c.length).map g).sum=Tr.cntL c
 | [],_,_,_=>rfl
 |x::r,b,g,h=>by
  rw [Au,List.range'_succ,List.map_cons,List.sum_cons,Tr.cntL,Yq r (b+1) g (fun i y hy=>by
   have:=h (i+1) y (by simpa using hy)
   rwa [show b+(i+1)=b+1+i by omega] at this)]
  have:=h 0 x rfl;rw [Nat.add_zero] at this;rw [this]
theorem gA:∀(n b:Nat),((List.range' b n).map fun _=>1).sum=n
 |0,_=>rfl
 |n+1,b=>by rw [List.range'_succ,List.map_cons,List.sum_cons,gA n (b+1)];omega
theorem nT(hl:Cb t=true)(h:10≤Cs t):G3 [4,5,25] t=false∧¬(t=6∨t=7)∧(Cs t≤16→t≠9):=by
 have:=Ic hl;revert h;refine Lc (p:=fun t=>10≤Cs t→G3 [4,5,25] t=false∧¬(t=6∨t=7)∧(Cs t≤16→t≠9)) ?_ this;decide
theorem sW(hl:Cb t=true)(h:Cs t=8∨Cs t=9):G3 [4,5,25] t=false∧(t=6∨t=7):=by
 have:=Ic hl;revert h;refine Lc (p:=fun t=>Cs t=8∨Cs t=9→G3 [4,5,25] t=false∧(t=6∨t=7)) ?_ this;decide
theorem Ae1(L:List UInt8)(r:Rq)(s:Bw):(Jk L r s).left=s.left:=by unfold Jk;split;rw [Gz];rfl
theorem S6{go:Rq→Bw→Bw×Int}(hl:C2 L r.p r.q r.t r.v=0)(f:Nat→Nat)(hE:∀i:Nat,i<lsLen L r.p r.q r.t r.v→F5 L r.p r.q r.t r.v i=0∧Qj go d (f i) (Ga L r i))
  (hh:∀s:Bw,(n:Int)≤s.left→s.left.toNat<d→R3 n s (Em L go r s)):∀s:Bw,((n+((List.range' 0 (lsLen L r.p r.q r.t r.v)).map f).sum:Nat):Int)≤s.left→s.left.toNat<d→R3 (n+((List.range' 0 (lsLen L r.p r.q r.t r.v)).map f).sum) s (Gl L go r s):=by
 intro s h1 h2;obtain⟨a,h,j⟩:=hh s (by omega) h2;unfold Gl;rw [if_neg (by rw [hl];decide),if_neg (by rw [a];decide)];have e:=Ae1 L r (Em L go r s).1;obtain⟨b,c,g⟩:=Wi f hE (lsLen L r.p r.q r.t r.v) 0 (Jk L r (Em L go r s).1) (by omega) (by rw [e];omega) (by rw [e];omega);rw [e] at c g;exact⟨b,by omega,by omega⟩
theorem qJ{P:Int→Int→Int→Int→Prop}{p q v:Int}(h:J8 L P p q t v T):∀d,Qj (Ct L d) d T.cnt ⟨p,q,t,v⟩:=by
 induction h with
 | @inl p q t v k n u s ks c hm hi hk h4 hv=>
  intro d st h1 h2;have e:1≤Tr.cnt (.mk k n u s ks c):=by rw [Tr.cnt];split <;>omega
  cases d with
  |zero=>omega
  |succ d=>
   unfold Ct;rw [if_neg (by omega),if_pos hi];exact⟨rfl,by show _≤(C7 _ st).left;rw [Qh];omega,by show(C7 _ st).left≤_;rw [Qh];omega⟩
 | @txt p q t v k s a n u ks c hr hP=>
  intro d;have e:1≤Tr.cnt (.mk k n u s ks c):=by rw [Tr.cnt];split <;>omega
  cases d with
  |zero=>intro st h1 h2;omega
  |succ d=>exact(bQ hr d).more e
 | @num p q t v k n u s ks c hm hi hk h8 htg hv hP=>
  intro d;have e:1≤Tr.cnt (.mk k n u s ks c):=by rw [Tr.cnt];split <;>omega
  cases d with
  |zero=>intro st h1 h2;omega
  |succ d=>
   have b:=(Du.1 (Fg.1 hm).1).1;obtain⟨z,A⟩:=sW b (by rw [hk];exact h8);refine(M7 (n:=0) (r:=⟨p,q,t,v⟩) htg hi (fun st h1 h2=>?_)).more e;unfold Ee E7;rw [if_neg (by rw [z];decide),if_pos A,if_pos hv.plc];exact⟨rfl,by show _≤(Bw.tell _ _ _ _).left;rw [Gz];omega,by show(Bw.tell _ _ _ _).left≤_;rw [Gz];omega⟩
 | @list p q t v k c n u s ks hm hi hk h10 htg b hP ha he ih=>
  intro d;cases d with
  |zero=>
   intro st h1 h2;omega
  |succ d=>
   have m:=(Du.1 (Fg.1 hm).1).1;obtain⟨z,A,D⟩:=nT m (by rw [hk];exact h10.1);have e:Tr.cnt (.mk k n u s ks c)=Tr.cntL c+1:=by rw [Tr.cnt,if_neg (by omega)];omega
   rw [e];refine M7 (n:=Tr.cntL c) (r:=⟨p,q,t,v⟩) htg hi (fun st h1 h2=>?_);unfold Ee;rw [if_neg (by rw [z];decide),if_neg A];have o:((List.range' 0 (lsLen L p q t v)).map fun i=>((c[i]?).map Tr.cnt).getD 0).sum=Tr.cntL c:=by
    rw [b.2];exact Yq c 0 _ (fun i x hx=>by rw [Av,hx];rfl)
   have:=S6 (go:=Ct L d) (d:=d) (n:=0) (r:=⟨p,q,t,v⟩) b.1 (fun i=>((c[i]?).map Tr.cnt).getD 0) (fun i hi=>by
    have hi:i<c.length:=by rw [←b.2];exact hi
    have hx:c[i]?=some c[i]:=Ag hi;refine⟨ha i hi,?_⟩;rw [hx];exact ih i c[i] hx d) (fun st _ _=>by
    unfold Em;rw [if_neg (D (by rw [hk];exact h10.2))];exact⟨rfl,(by omega:st.left-((0:Nat):Int)≤st.left),Int.le_refl _⟩) st
   rw [Av] at this;have f:((List.range' 0 (lsLen L (Rq.mk p q t v).p (Rq.mk p q t v).q (Rq.mk p q t v).t (Rq.mk p q t v).v)).map fun i=>((c[i]?).map Tr.cnt).getD 0).sum=Tr.cntL c:=o;rw [f] at this;exact this h1 h2
 | @map p q v c ks n u s hm htg b hks hy ho hkl hP hke ha he ih=>
  intro d;cases d with
  |zero=>
   intro st h1 h2;omega
  |succ d=>
   have e:Tr.cnt (.mk 17 n u s ks c)=(1+ks.length+Tr.cntL c)+1:=by rw [Tr.cnt,if_pos rfl];omega
   rw [e];refine M7 (n:=1+ks.length+Tr.cntL c) (r:=⟨p,q,9,v⟩) htg (by decide:Bq 9=false) (fun st h1 h2=>?_);unfold Ee;rw [if_neg (by decide:¬G3 [4,5,25] 9=true),if_neg (by decide:¬((9:Int)=6∨(9:Int)=7))];have o:((List.range' 0 (lsLen L p q 9 v)).map fun i=>((c[i]?).map Tr.cnt).getD 0).sum=Tr.cntL c:=by
    rw [b.2];exact Yq c 0 _ (fun i x hx=>by rw [Av,hx];rfl)
   have g:Qj (Ct L d) d (ks.length+1) (En L ⟨p,q,9,v⟩):=by
    cases d with
    |zero=>intro st h1 h2;omega
    |succ d=>
     have B:En L ⟨p,q,9,v⟩=⟨Gm L p q 9 v,Gn L p q 9 v,14,Gw L p q 9 v⟩:=by unfold En;rw [hkl.1]
     rw [B];refine M7 (n:=ks.length) (r:=⟨Gm L p q 9 v,Gn L p q 9 v,14,Gw L p q 9 v⟩) hkl.2.1 (by decide:Bq 14=false) (fun st h1 h2=>?_);unfold Ee;rw [if_neg (by decide:¬G3 [4,5,25] 14=true),if_neg (by decide:¬((14:Int)=6∨(14:Int)=7))];have j:lsLen L (Gm L p q 9 v) (Gn L p q 9 v) 14 (Gw L p q 9 v)=ks.length:=by rw [hkl.2.2.2,hks]
     have:=S6 (go:=Ct L d) (d:=d) (n:=0) (r:=⟨Gm L p q 9 v,Gn L p q 9 v,14,Gw L p q 9 v⟩) hkl.2.2.1 (fun _=>1) (fun i hi=>by
      have hi:i<ks.length:=by rw [←j];exact hi
      obtain⟨w,a,y,_⟩:=hke i ks[i] (Ag hi);refine⟨w,?_⟩;cases d with
      |zero=>intro st h1 h2;omega
      |succ d=>exact bQ y d) (fun st _ _=>by
      unfold Em;rw [if_neg (by decide:¬(14:Int)=9)];exact⟨rfl,(by omega:st.left-((0:Nat):Int)≤st.left),Int.le_refl _⟩) st
     rw [Av,gA] at this;have l:lsLen L (Rq.mk (Gm L p q 9 v) (Gn L p q 9 v) 14 (Gw L p q 9 v)).p (Rq.mk (Gm L p q 9 v) (Gn L p q 9 v) 14 (Gw L p q 9 v)).q (Rq.mk (Gm L p q 9 v) (Gn L p q 9 v) 14 (Gw L p q 9 v)).t (Rq.mk (Gm L p q 9 v) (Gn L p q 9 v) 14 (Gw L p q 9 v)).v=ks.length:=j;rw [l] at this;exact this h1 h2
   have:=S6 (go:=Ct L d) (d:=d) (n:=ks.length+1) (r:=⟨p,q,9,v⟩) b.1 (fun i=>((c[i]?).map Tr.cnt).getD 0) (fun i hi=>by
    have hi:i<c.length:=by rw [←b.2];exact hi
    have hx:c[i]?=some c[i]:=Ag hi;refine⟨ha i hi,?_⟩;rw [hx];exact ih i c[i] hx d) (fun st h1 h2=>by
    obtain⟨w,y,C⟩:=g st h1 h2;unfold Em Hz;rw [if_pos rfl,if_neg (by rw [hy];decide),if_neg (by rw [w];decide)];exact⟨rfl,by show _≤(Bw.tell _ _ _ _).left;rw [Gz];exact y,by show(Bw.tell _ _ _ _).left≤_;rw [Gz];exact C⟩) st
   have f:((List.range' 0 (lsLen L (Rq.mk p q 9 v).p (Rq.mk p q 9 v).q (Rq.mk p q 9 v).t (Rq.mk p q 9 v).v)).map fun i=>((c[i]?).map Tr.cnt).getD 0).sum=Tr.cntL c:=o;rw [f] at this;rw [show 1+ks.length+Tr.cntL c=ks.length+1+Tr.cntL c by omega] at h1⊢;exact this h1 h2
theorem Dz(a b c:Int)(w:World):Calls Ad 42 #[Aa Ab a,Aa Ab b,Aa Ab c] w (Afc (.agg #[Aa Ab a,Aa Ab b,Aa Ab c]) w):=by
 go_enter func42,ntmps42;go_wp2;refine bodyPost_ret (v:= .agg #[Aa Ab a,Aa Ab b,Aa Ab c]) (by simp [results,results42,go_sem]) rfl ⟨rfl,?_⟩;exact(Af _ _).alloc (Ae _) _
theorem tY(s:ByteArray)(w:World):∃c w',(convert 9 22 (.string s)).run Ad w= .ok (.slice (some ⟨w.heap.size,0,none⟩) s.size c) w'∧s.size≤c∧Cv w' (some ⟨w.heap.size,0,none⟩) s.size s.data.toList∧Below w.heap.size w w':=by
 refine⟨_,_,run_bytes_of_string w 9 22 5 s underlying9 underlying22 underlying5,?_,?_,(Af _ _).drew.alloc (Ae _) _⟩
 ·exact grownCap_ge _ _ _ _
 ·refine⟨Array.length_toList,fun j u hu=>⟨_,_,rfl,?_⟩⟩;have b:j<s.data.size:=by
   have:=(List.getElem?_eq_some_iff.1 hu).1;rw [Cm D1] at this;simpa using this
  have a:=heap_alloc_new w.drew (.cells (bytesRow s (grownCap w s.size 0 5)) 5 ((bytesRow s (grownCap w s.size 0 5)).size,(bytesRow s (grownCap w s.size 0 5)).size+1));change _[w.heap.size]?=_ at a;rw [cell_of_row _ _ _ _ _ _ a,Av,bytesRow_at s _ j b,←hu];have h1:=Ip D1 s.data.toList j 0 (by simpa using b) (by omega);rw [Nat.mul_one,Nat.add_zero] at h1;rw [h1];rfl
theorem dR{k:Nat}{L:List P3}(h:jG w A n L)(hk:k<n):∃b off,A=some ⟨b,off,none⟩∧∀x y z,L[k]?=some (x,y,z)→w.cell? ⟨b,off+k*3,none⟩=some (Aa Ab x)∧w.cell? ⟨b,off+k*3+1,none⟩=some (Aa Ab y)∧w.cell? ⟨b,off+k*3+2,none⟩=some (Aa Ab z):=by
 obtain⟨b,off,c,a,h1⟩:=h.at_ Kd (by omega) hk;refine⟨b,off,c,fun x y z hx=>?_⟩;rw [Ag a] at hx;injection hx with hx
 rw [hx] at h1;have h0:=h1 0 (by omega);have h2:=h1 1 (by omega);have h3:=h1 2 (by omega);exact⟨h0,h2,h3⟩
theorem Mq(s:ByteArray)(fuel er:Int)(A2:Option Addr)(m c2:Nat)(L:List P3)(w:World)(h:jG w A2 m L)(hm:m≤2147483648)(hf:fuel≤100000000)(hs:s.size≤1000)(h1:Ew s.data.toList fuel=er)(h2:E8 s.data.toList fuel=L):
  Calls Ad 41 #[.string s,Aa Ab fuel,Aa Ab er,.slice A2 m c2] w (Afc (.bool true) w):=by
 have d:=Hd h;have C:=Hd h1;have D:=Hd h2;have f:L.length=m:=h.1;obtain⟨c,W,n,H,A,a⟩:=tY s w;have r:=Hd A;have b:=Hd a;replace d:=Hd (h.pure a);have l:=Hd f;clear h h1 h2 A a f;go_enter func41,ntmps41;go_wp2_with fail;go_at_call 17;refine(Xi _ s.size c fuel s.data.toList _ r.o H (by omega) hf).mono ?_;rw [C.o,D.o];rintro e X ⟨B,k,E,rfl,p,a⟩;replace d:=Hd (d.o.pure a);replace b:=Hd (Bi b.o a);obtain rfl:m=k:=by rw [←l.o];exact p.1
 have t:=Hd p.is;clear p a n r;go_wp2_with fail;go_loopw [11] (fun i wr=>∃k:Nat,k≤m∧i= Aa Ab k∧Below w.heap.size w wr∧jG wr B m L∧jG wr A2 m L) (fun i _=>m-(intOf i).toNat)
 case atStart=>exact⟨0,by omega,rfl,b.o,t.o,d.o⟩
 case round=>
  clear b t d;obtain⟨k,T,rfl,a,h1,h2⟩:=hrel;have b:=Hd a;have u:=Hd h1;have v:=Hd h2;have g:L.length=m:=h1.1;clear a h1 h2;by_cases j:k<m
  ·obtain⟨Q,U,F,h1⟩:=dR u.o j;obtain⟨R,V,G,h2⟩:=dR v.o j;obtain⟨⟨x,y,z⟩,q⟩:∃x,L[k]?=some x:=⟨_,Ag (by omega)⟩;obtain⟨N,O,P⟩:=h1 x y z q;obtain⟨S,E,c2⟩:=h2 x y z q;have I:=Vo (x,y,z) (x,y,z) false (by simp);have J:(0:Int)≤k:=by omega
   have K:(k:Int)<m:=by omega
   have M:IntKind.i64.wrap ((k:Int)+1)=(k:Int)+1:=Ao _ (by omega);subst F G;clear h1 h2 q g;go_wp2_with fail;go_quiet (fail);go_wp2_with fail;go_roundw
   case rel=>exact⟨k+1,by omega,by go_num,below_drewN b.o _,u.o.drewN _,v.o.drewN _⟩
   case measure=>simp [intOf];omega
  ·obtain rfl:k=m:=by omega
   clear g;go_wp2;go_ret;exact⟨rfl,b.o⟩
theorem zQ:Ew [5,4,1] 1=0∧E8 [5,4,1] 1=[(0,1,2),(1,2,8),(2,3,14)]:=by decide
theorem zR:Ew [2,104,105,0,3,20,1] 9=0∧E8 [2,104,105,0,3,20,1] 9=[(0,1,6),(1,4,10),(4,5,5),(5,6,8),(6,7,14)]:=by decide
theorem zS:Ew [97,0,2,3,4,2,56,1] 9=0∧E8 [97,0,2,3,4,2,56,1] 9=[(0,2,9),(2,3,6),(3,4,5),(4,5,5),(5,6,5),(6,7,8),(7,8,14)]:=by decide
theorem zT:Ew [5,4,1] 0=260∧E8 [5,4,1] 0=[]:=by decide
theorem zU:Ew [4,1] 9=210∧E8 [4,1] 9=[]:=by decide
theorem zV:Ew [2,104,105,1,3,20,1] 9=213∧E8 [2,104,105,1,3,20,1] 9=[]:=by decide
theorem dS(W:World)(vs:Array Value)(n:Nat)(L:List P3)(hn:L.length=n)(h:vs.toList=L.flatMap pc):jG (W.alloc (.cells vs 46)) (some ⟨W.heap.size,0,none⟩) n L:=
 ⟨hn,fun j u hj=>⟨_,_,rfl,by rw [(Bk.new W 46 vs).cell,Av,←Array.getElem?_toList,h];exact hj⟩⟩
theorem Sl(w:World):Calls Ad 16 #[] w (Afc (.bool true) w):=by
 have b:=Hd (Af w.heap.size w);go_enter func16,ntmps16;go_wp2_with fail;go_at_call 42;refine(Dz 0 1 2 _).mono ?_;rintro e c ⟨rfl,a⟩;replace b:=Hd (Bi b.o a);clear a;go_wp2_with fail;go_at_call 42;refine(Dz 1 2 8 _).mono ?_;rintro e c ⟨rfl,a⟩;replace b:=Hd (Bi b.o a);clear a;go_wp2_with fail;go_at_call 42;refine(Dz 2 3 14 _).mono ?_;rintro e c ⟨rfl,a⟩;replace b:=Hd (Bi b.o a);clear a;go_wp2_with fail;have d:=Hd (dS c #[Aa Ab 0,Aa Ab 1,Aa Ab 2,Aa Ab 1,Aa Ab 2,Aa Ab 8,Aa Ab 2,Aa Ab 3,Aa Ab 14] 3 [(0,1,2),(1,2,8),(2,3,14)] (by rfl) (by rfl));replace b:=Hd (b.o.alloc b.o.size (.cells #[Aa Ab 0,Aa Ab 1,Aa Ab 2,Aa Ab 1,Aa Ab 2,Aa Ab 8,Aa Ab 2,Aa Ab 3,Aa Ab 14] 46));go_at_call 41;refine(Mq _ 1 0 _ 3 3 [(0,1,2),(1,2,8),(2,3,14)] _ d.o (by decide) (by decide) (by decide) zQ.1 zQ.2).mono ?_;rintro e c ⟨rfl,a⟩;replace b:=Hd (Bi b.o a);clear a d;go_wp2_with fail;go_at_call 42;refine(Dz 0 1 6 _).mono ?_;rintro e c ⟨rfl,a⟩;replace b:=Hd (Bi b.o a);clear a;go_wp2_with fail;go_at_call 42;refine(Dz 1 4 10 _).mono ?_;rintro e c ⟨rfl,a⟩;replace b:=Hd (Bi b.o a);clear a;go_wp2_with fail;go_at_call 42;refine(Dz 4 5 5 _).mono ?_;rintro e c ⟨rfl,a⟩;replace b:=Hd (Bi b.o a);clear a;go_wp2_with fail;go_at_call 42;refine(Dz 5 6 8 _).mono ?_;rintro e c ⟨rfl,a⟩;replace b:=Hd (Bi b.o a);clear a;go_wp2_with fail;go_at_call 42;refine(Dz 6 7 14 _).mono ?_;rintro e c ⟨rfl,a⟩;replace b:=Hd (Bi b.o a);clear a;go_wp2_with fail;have d:=Hd (dS c #[Aa Ab 0,Aa Ab 1,Aa Ab 6,Aa Ab 1,Aa Ab 4,Aa Ab 10,Aa Ab 4,Aa Ab 5,Aa Ab 5,Aa Ab 5,Aa Ab 6,Aa Ab 8,Aa Ab 6,Aa Ab 7,Aa Ab 14] 5 [(0,1,6),(1,4,10),(4,5,5),(5,6,8),(6,7,14)] (by rfl) (by rfl));replace b:=Hd (b.o.alloc b.o.size (.cells #[Aa Ab 0,Aa Ab 1,Aa Ab 6,Aa Ab 1,Aa Ab 4,Aa Ab 10,Aa Ab 4,Aa Ab 5,Aa Ab 5,Aa Ab 5,Aa Ab 6,Aa Ab 8,Aa Ab 6,Aa Ab 7,Aa Ab 14] 46));go_at_call 41;refine(Mq _ 9 0 _ 5 5 [(0,1,6),(1,4,10),(4,5,5),(5,6,8),(6,7,14)] _ d.o (by decide) (by decide) (by decide) zR.1 zR.2).mono ?_;rintro e c ⟨rfl,a⟩;replace b:=Hd (Bi b.o a);clear a d;go_wp2_with fail;go_at_call 42;refine(Dz 0 2 9 _).mono ?_;rintro e c ⟨rfl,a⟩;replace b:=Hd (Bi b.o a);clear a;go_wp2_with fail;go_at_call 42;refine(Dz 2 3 6 _).mono ?_;rintro e c ⟨rfl,a⟩;replace b:=Hd (Bi b.o a);clear a;go_wp2_with fail;go_at_call 42;refine(Dz 3 4 5 _).mono ?_;rintro e c ⟨rfl,a⟩;replace b:=Hd (Bi b.o a);clear a;go_wp2_with fail;go_at_call 42;refine(Dz 4 5 5 _).mono ?_;rintro e c ⟨rfl,a⟩;replace b:=Hd (Bi b.o a);clear a;go_wp2_with fail;go_at_call 42;refine(Dz 5 6 5 _).mono ?_;rintro e c ⟨rfl,a⟩;replace b:=Hd (Bi b.o a);clear a;go_wp2_with fail;go_at_call 42;refine(Dz 6 7 8 _).mono ?_;rintro e c ⟨rfl,a⟩;replace b:=Hd (Bi b.o a);clear a;go_wp2_with fail;go_at_call 42;refine(Dz 7 8 14 _).mono ?_;rintro e c ⟨rfl,a⟩;replace b:=Hd (Bi b.o a);clear a;go_wp2_with fail;have d:=Hd (dS c #[Aa Ab 0,Aa Ab 2,Aa Ab 9,Aa Ab 2,Aa Ab 3,Aa Ab 6,Aa Ab 3,Aa Ab 4,Aa Ab 5,Aa Ab 4,Aa Ab 5,Aa Ab 5,Aa Ab 5,Aa Ab 6,Aa Ab 5,Aa Ab 6,Aa Ab 7,Aa Ab 8,Aa Ab 7,Aa Ab 8,Aa Ab 14] 7 [(0,2,9),(2,3,6),(3,4,5),(4,5,5),(5,6,5),(6,7,8),(7,8,14)] (by rfl) (by rfl));replace b:=Hd (b.o.alloc b.o.size (.cells #[Aa Ab 0,Aa Ab 2,Aa Ab 9,Aa Ab 2,Aa Ab 3,Aa Ab 6,Aa Ab 3,Aa Ab 4,Aa Ab 5,Aa Ab 4,Aa Ab 5,Aa Ab 5,Aa Ab 5,Aa Ab 6,Aa Ab 5,Aa Ab 6,Aa Ab 7,Aa Ab 8,Aa Ab 7,Aa Ab 8,Aa Ab 14] 46));go_at_call 41;refine(Mq _ 9 0 _ 7 7 [(0,2,9),(2,3,6),(3,4,5),(4,5,5),(5,6,5),(6,7,8),(7,8,14)] _ d.o (by decide) (by decide) (by decide) zS.1 zS.2).mono ?_;rintro e c ⟨rfl,a⟩;replace b:=Hd (Bi b.o a);clear a d;go_wp2_with fail;go_at_call 41;refine(Mq _ 0 260 _ 0 0 [] _ (Is.nil _ _) (by decide) (by decide) (by decide) zT.1 zT.2).mono ?_;rintro e c ⟨rfl,a⟩;replace b:=Hd (Bi b.o a);clear a;go_wp2_with fail;go_at_call 41;refine(Mq _ 9 210 _ 0 0 [] _ (Is.nil _ _) (by decide) (by decide) (by decide) zU.1 zU.2).mono ?_;rintro e c ⟨rfl,a⟩;replace b:=Hd (Bi b.o a);clear a;go_wp2_with fail;go_at_call 41;refine(Mq _ 9 213 _ 0 0 [] _ (Is.nil _ _) (by decide) (by decide) (by decide) zV.1 zV.2).mono ?_;rintro e c ⟨rfl,a⟩;replace b:=Hd (Bi b.o a);clear a;go_wp2;go_ret;exact⟨rfl,b.o⟩
def Bw.more(s:Bw)(k:Nat):Bw:={ s with left:=s.left+k}
section
variable {l:List UInt8} {go go':Rq→Bw→Bw×Int} (r:Rq) {k:Nat}
end
theorem Zs(x:P3):∀m:List P3,nslot (Jy x m)≤nslot m+nslot [x]
 | []=>by simp [Jy,nslot]
 |y::l=>by
  have h:=Zs x l;unfold Jy;have e:∀a (b:List P3),nslot (a::b)=nslot [a]+nslot b:=fun a b=>by rw [←Fp];rfl
  split
  ·rw [e y (Jy x l),e y l];omega
  ·split
   ·omega
   ·rw [e x (y::l)];omega
theorem oC(l:List P3):nslot (Js l)≤nslot l:=by
 have:∀(l m:List P3),nslot (l.foldl (fun m x=>Jy x m) m)≤nslot m+nslot l:=by
  intro l
  induction l with
  |nil=>intro m;simp
  |cons x r ih=>
   intro m;have h1:=ih (Jy x m);have h2:=Zs x m;have e:nslot (x::r)=nslot [x]+nslot r:=by rw [←Fp];rfl
   rw [List.foldl_cons,e];omega
 have h:=this l [];have h0:nslot []=0:=rfl;unfold Js;omega
theorem jA(h:Tu l log):J3 log:=by
 refine List.Pairwise.imp_of_mem (fun {a b} ha _ hab=>?_) h.asc;have:=h.rg a ha;unfold Jp;omega
theorem yN{b:List UInt8}(h:F9 b log)(v:Bv){w:Nat}(hw:Bz (w:Int)=true):F9 (Di b v w) (log++ [(((Bm w b).length:Int),(((Bm w b).length+w:Nat):Int),Er v.t),((((Bm w b).length+w:Nat):Int),(((Bm w b).length+w+1:Nat):Int),8),((((Bm w b).length+w+1:Nat):Int),(((Bm w b).length+w+2:Nat):Int),14)]):=by
 have h0:0<w:=by rcases C8.1 hw with h|h|h|h <;>omega
 have a:F9 (Bm w b) log:=h.pad _;have h1:=((a.part _ (Oo h0 (u:=Da w (Bm w b).length v)) (Er v.t)).part [Dl w v] (by simp) 8).part [UInt8.ofNat w] (by simp) 14;simp only [Ah,Bo,Au,Aw,Am,List.cons_append,A6] at h1;unfold Di;simp only [Am];exact h1
def aU(D:List UInt8)(T:Tr)(log:List P3):Prop:=
 ∃(b:List UInt8) (v:Bv) (w:Nat) (ps lg:List P3),D=Di b v w∧Bz (w:Int)=true∧Cb (v.t:Int)=true∧Bz (v.w:Int)=true∧Cn D (Bm w b).length w v∧Rp D v T ps∧(∀x∈ps,x∈lg)∧log=lg++ [(((Bm w b).length:Int),(((Bm w b).length+w:Nat):Int),Er v.t),((((Bm w b).length+w:Nat):Int),(((Bm w b).length+w+1:Nat):Int),8),((((Bm w b).length+w+1:Nat):Int),(((Bm w b).length+w+2:Nat):Int),14)]
theorem nA(hv:Ft T)(hN:G0 T)(hc:T.cost≤65000)(f:Nat)(hfl:Fq f 4=true→Fq f 1=true):
  ∃log,aU (Ha f (By T)) (By T) log∧Tu (Ha f (By T)) log∧(Ha f (By T)).length≤65100∧(∃n:Nat,(Ha f (By T)).length=n+1∧log.getLast?=some ((n:Int),((n+1:Nat):Int),14))∧(f=0→nslot log=(By T).refs)∧(∀fuel:Int,((By T).cnt:Int)≤fuel→Ew (Ha f (By T)) fuel=0)∧
   ∀fuel:Int,Ew (Ha f (By T)) fuel=0→E8 (Ha f (By T)) fuel=log∧(nslot log:Int)≤fuel:=by
 have s:=Yj hv hN;obtain⟨v,ps,lg,V,y,I,d,F⟩:=Aab f hfl (By T) (Xt hv);have G:=y.rep;have z:=J5 f (By T) (Xt hv) Bd.new Oh;rw [M8 T hv] at z;have hz:Bd.new.size=0:=rfl;have Z:(Bd.calls f (By T) Bd.new).b.length≤65000:=by
  have:(Bd.calls f (By T) Bd.new).b.length≤(Bd.calls f (By T) Bd.new).size:=by unfold Bd.size;omega
  omega
 obtain⟨C,M⟩:=Pa (Dt v (Bd.calls f (By T) Bd.new).b.length 0) (Su G.fit 0);have g:Bz ((leastW (Dt v (Bd.calls f (By T) Bd.new).b.length 0):Nat):Int)=true:=C8.2 C;have L:Ha f (By T)=Di (Bd.calls f (By T) Bd.new).b v (leastW (Dt v (Bd.calls f (By T) Bd.new).b.length 0)):=by simp only [Ha,Bd.finish,V,Di]
 rw [L];generalize leastW (Dt v (Bd.calls f (By T) Bd.new).b.length 0)=w at*;generalize (Bd.calls f (By T) Bd.new).b=b at*;clear L z hz C;obtain⟨p,q,_⟩:=G.legal s.fix;have r:=Uz [] b v w;have h8:=Nt b g;have h9:w≤8:=by rcases C8.1 g with h|h|h|h <;>omega
 have h0:0<w:=by rcases C8.1 g with h|h|h|h <;>omega
 simp only [A6,Aw,Av] at r;have A:=yN I v g;have Y:(Di b v w).length<2^32:=by omega
 have N:=cU (v:=v) g (by omega) M;obtain⟨m,U⟩:∃m,Di b v w=b++m:=⟨_,by unfold Di Bm;rw [Am,Am]⟩;have u:Rp (Di b v w) v (By T) ps:=by rw [U];exact y.app m
 have J:=yT u Y s _ _ N;obtain⟨K,O⟩:=xW (x:=[]) (b:=b) (v:=v) (w:=w) rfl g p q;simp only [A6,Aw,Av] at K O;have c:Jr (Di b v w)=⟨((Bm w b).length:Int),(w:Int),(v.t:Int),(ownW w v:Int)⟩:=by
  unfold Jr;rw [O]
 have H:=vW hv hN G g Z M (Vz.any _);refine⟨_,⟨b,v,w,ps,lg,rfl,g,p,q,N,u,fun x hx=>(d x).2 hx,rfl⟩,A.facts,by omega,⟨(Bm w b).length+w+1,by omega,?_⟩,fun hz=>?_,fun fuel hfu=>?_,fun fuel he=>?_⟩
 ·simp;omega
 ·rw [Fp,←F hz]
  congr 1
  unfold nslot;rw [List.countP_cons_of_pos (by simpa using cO v.t),List.countP_cons_of_neg (by simp),List.countP_cons_of_neg (by simp)];rfl
 ·have a:(Gq (Di b v w) fuel).left=fuel:=by unfold Gq;rw [Gz,Gz]
  have:=qJ H (fuel.toNat+1) (Gq (Di b v w) fuel) (by rw [a];exact hfu) (by rw [a];omega);unfold Ew;rw [if_neg (by rw [K];decide)];unfold K0;rw [c];exact this.1
 ·have j:=he;unfold Ew at he;rw [if_neg (by rw [K];decide)] at he;have l:(Gq (Di b v w) fuel).had=[]:=by unfold Gq;rw [Kp,Kp]
  have a:(Gq (Di b v w) fuel).left=fuel:=by unfold Gq;rw [Gz,Gz]
  have e:(Gq (Di b v w) fuel).o=[(((Di b v w).length:Int)-1,((Di b v w).length:Int),14),(((Di b v w).length:Int)-2,((Di b v w).length:Int)-1,8)]:=by
   unfold Gq;rw [Kq,Kq,Ii (by omega),Ii (by omega)];rfl
  have i:=vN l he;obtain⟨B,ab⟩:=X4 _ _ _ _ he;have k:E8 (Di b v w) fuel=lg++ [(((Bm w b).length:Int),(((Bm w b).length+w:Nat):Int),Er v.t),((((Bm w b).length+w:Nat):Int),(((Bm w b).length+w+1:Nat):Int),8),((((Bm w b).length+w+1:Nat):Int),(((Bm w b).length+w+2:Nat):Int),14)]:=by
   unfold E8;rw [if_neg (by rw [j];decide)];refine Ro _ _ (R0 _) (jA A.facts) fun x=>?_
   rw [Xc];show x∈(Ct _ _ _ _).1.o↔_;rw [i,e,c];have D:Hq ⟨((Bm w b).length:Int),(w:Int),(v.t:Int),(ownW w v:Int)⟩=[(((Bm w b).length:Int),((Bm w b).length:Int)+(w:Int),Er v.t)]:=Ii (show((Bm w b).length:Int)<((Bm w b).length:Int)+(w:Int) by omega) _;rw [D];simp only [List.mem_append,List.mem_cons,List.not_mem_nil,or_false];have P:((Di b v w).length:Int)-1=(((Bm w b).length+w+1:Nat):Int):=by omega
   have Q:((Di b v w).length:Int)=(((Bm w b).length+w+2:Nat):Int):=by omega
   have R:((Di b v w).length:Int)-2=(((Bm w b).length+w:Nat):Int):=by omega
   have S:((Bm w b).length:Int)+(w:Int)=(((Bm w b).length+w:Nat):Int):=by omega
   rw [P,R,Q,S];have hu:(Bq (v.t:Int)=false∧Ds (Di b v w) ⟨((Bm w b).length:Int),(w:Int),(v.t:Int),(ownW w v:Int)⟩ x)↔x∈lg:=by
    rw [d,←J x];exact⟨fun h=>h.2,fun h=>⟨(Le.1 h).1,h⟩⟩
   rw [hu];constructor
   ·rintro((h|h)|h|h)
    ·exact .inr (.inr (.inr h))
    ·exact .inr (.inr (.inl h))
    ·exact .inr (.inl h)
    ·exact .inl h
   ·rintro(h|h|h|h)
    ·exact .inr (.inr h)
    ·exact .inr (.inl h)
    ·exact .inl (.inr h)
    ·exact .inl (.inl h)
  refine⟨k,?_⟩;have h1:=oC (K0 (Di b v w) fuel).1.o;have h2:E8 (Di b v w) fuel=Js (K0 (Di b v w) fuel).1.o:=by
   unfold E8;rw [if_neg (by rw [j];decide)]
  rw [k] at h2;rw [←h2] at h1;have h3:=B.cnt;have W:nslot (Gq (Di b v w) fuel).o=0:=by rw [e];rfl
  rw [W,a] at h3;have X:0≤(Gq (Di b v w) fuel).left:=by
   rw [a];have:¬(Gq (Di b v w) fuel).left<1:=by
    intro E;unfold K0 at he;unfold Ct at he;rw [if_pos E] at he;cases he
   omega
  have h6:=B.nn X;have h7:nslot (K0 (Di b v w) fuel).1.o=nslot (Ct (Di b v w) (fuel.toNat+1) (Jr (Di b v w)) (Gq (Di b v w) fuel)).1.o:=rfl;omega
theorem Hw(k n:Int)(u:Nat)(s:List UInt8)(A B:Option Addr)(ac bc:Nat)(w:World):
  Calls Ad 270 #[.agg (Aff k n u s A 0 ac B 0 bc),.agg (Aff k n u s none 0 0 none 0 0)] w (Afc (.bool true) w):=by
 have d:=Hd (Bu w (.cells (Aff k n u s A 0 ac B 0 bc) 34) (.cells (Aff k n u s none 0 0 none 0 0) 34));have b:=Hd ((Bk.new w 34 (Aff k n u s A 0 ac B 0 bc)).alloc (.cells (Aff k n u s none 0 0 none 0 0) 34));have a:=Hd (Bk.new_ (w:=w.alloc (.cells (Aff k n u s A 0 ac B 0 bc) 34)) (g:=w.heap.size+1) (by simp) 34 (Aff k n u s none 0 0 none 0 0));go_enter func270,ntmps270;go_upto_region 1 with fail
 generalize (w.alloc (.cells (Aff k n u s A 0 ac B 0 bc) 34)).alloc (.cells (Aff k n u s none 0 0 none 0 0) 34)=w1 at d b a⊢;generalize c:w.heap.size=bt at b a⊢;generalize bt+1=bs at a⊢;clear c;obtain ⟨e,f,h,i,j,l⟩:=b.o.c6;obtain ⟨m,p,q,r⟩:=a.o.c4;go_wp2_with fail;go_ret;exact⟨rfl,d.o⟩
theorem K1(A:Option Addr)(n c:Nat)(a x:Int)(u:Nat)(l:List UInt8)(w:World)(hl:Cv w A n l)(hc:n≤c)(hn:n≤4294967296)(h1:Cy n a x=0)(h2:loadU l a x=u)(hu:u<4294967296):
  Calls Ad 160 #[.slice A n c,Aa Ab a,Aa Ab x] w (Afc (.tuple #[Aa Ab (u:Int),.bool true]) w):=by
 have b:=Hd (Ff A n c a x l w 0 u hl hc (by omega) h1 h2);have h:((u:Int)≤9007199254740992):=by omega
 have i:IntKind.i64.wrap (u:Int)=(u:Int):=Ao _ (by omega);have f:min (u:Int) 9007199254740992=(u:Int):=Int.min_eq_left h;clear hl h1 h2;go_enter func160,ntmps160;go_wp2_with fail;go_at_call 149;refine b.o.mono ?_;rintro e j ⟨rfl,d⟩;have g:=Hd d;clear d b;go_wp2_with fail;go_ret2;exact⟨rfl,g.o⟩
theorem fP{c:Nat}(h:Cv w A n l):(convert 119 9 (.slice A n c)).run Ad w= .ok (.string ⟨l.toArray⟩) w:=by
 rcases Nat.eq_zero_or_pos n with h0|h0
 ·subst h0;obtain rfl:l=[]:=List.eq_nil_of_length_eq_zero h.1;rw [run_convert_bytes_string w 119 9 5 A 0 c underlying119 underlying5 underlying9];cases A with
  |none=>simp [Conv.bytesToString];rfl
  |some a=>
   have:=run_bytesToString (P:=Ad) w a 0 c [] (by simp [loadCells,loadCellsFrom]);rw [this];rfl
 ·obtain⟨b,d,rfl,_⟩:=h.some_ D1 (by omega) h0;have:=run_convert_bytes_arg (P:=Ad) w 119 5 underlying119 underlying5 b d n c (l.map fun x=>(x.toNat:Int)) (by simp [h.1]) (fun i hi=>by
   obtain⟨o,f,e,k,j⟩:=Je h hi;injection e with e;injection e with e1 e2;subst e1 e2
   rw [j];simp [List.getD,Ag k]) 9 underlying9
  have g:∀m:List UInt8,(m.map fun x:UInt8=>(x.toNat:Int)).map (fun n=>UInt8.ofNat n.toNat)=m:=by
   intro m
   induction m with
   |nil=>rfl
   |cons x m ih=>rw [List.map_cons,List.map_cons,ih,Int.toNat_natCast,UInt8.ofNat_toNat]
  have e:strOfNums (l.map fun x:UInt8=>(x.toNat:Int))=⟨l.toArray⟩:=by
   unfold strOfNums;rw [g]
  rw [this,e]
theorem U3(A:Option Addr)(n c a:Nat)(s l:List UInt8)(w:World)(hl:Cv w A n l)(hc:n≤c)(hn:n≤4294967296)(ha:At l a s):
  Calls Ad 320 #[.slice A n c,Aa Ab (a:Int),.string ⟨s.toArray⟩] w (Afc (.bool true) w):=by
 have g:=ha.le;have h:=hl.1;have f:=ha.take;have o:Cv w (A.map (·.add a)) s.length s:=by
  have:=Oj hl (k:=a) (x:=s.length) (by omega)
  rwa [f] at this
 have i:∀c,(convert 119 9 (.slice (A.map fun x=>x.add a) s.length c)).run Ad w= .ok (.string ⟨s.toArray⟩) w:=fun c=>fP (c:=c) o
 have b:c=a→s=[]∧(convert 119 9 (.slice A s.length 0)).run Ad w= .ok (.string ⟨s.toArray⟩) w:=by
  intro e;have h0:s=[]:=List.eq_nil_of_length_eq_zero (by omega);subst h0;exact⟨rfl,fP (c:=0) (Is.nil _ _)⟩
 have m:(⟨s.toArray⟩:ByteArray).size=s.length:=rfl;have h0:(0:Int)≤(a:Int):=by omega
 have h1:(s.length:Int)≤(n:Int)-(a:Int):=by omega
 have q:IntKind.i64.wrap ((n:Int)-(a:Int))=(n:Int)-(a:Int):=Ao _ (by omega);have r:IntKind.i64.wrap ((a:Int)+(s.length:Int))=((a+s.length:Nat):Int):=by rw [Ao _ (by omega)];norm_cast
 clear hl ha o f g h;by_cases d:c=a
 ·obtain⟨p,j⟩:=b d;subst d p;have j:(convert 119 9 (.slice A 0 0)).run Ad w= .ok (.string ⟨#[]⟩) w:=j;clear i b;go_enter func320,ntmps320;go_wp2_with fail;go_ret;exact⟨rfl,Af _ _⟩
 ·clear b;go_enter func320,ntmps320;go_wp2_with fail;go_ret;exact⟨rfl,Af _ _⟩
theorem cQ(A:Option Addr)(n c:Nat)(p q t v:Int)(l:List UInt8)(w:World)(hl:Cv w A n l)(hc:n≤c)(hn:n≤4294967296)(h1:Cy n p q=0):
  Calls Ad 318 #[.slice A n c,.agg (Afg p q t v)] w (Afc (.bool true) w):=by
 have a:=(Af w.heap.size w).alloc (Ae _) (.cells (Afg p q t v) 70);have f:=Hd a;have d:=Hd (Bk.new w 70 (Afg p q t v));have g:=Hd (Ff A n c p q l _ 0 _ (hl.pure a) hc (by omega) h1 rfl);clear hl a h1;go_enter func318,ntmps318;go_upto_region 1 with fail
 generalize w.alloc (.cells (Afg p q t v) 70)=w1 at f d g⊢;generalize w.heap.size=bt at d⊢;obtain ⟨i,j⟩:=d.o.c2;go_wp2_with fail;go_at_call 149;refine g.o.mono ?_;rintro e h ⟨rfl,a⟩;have b:=Hd (Bi f.o a);clear a;go_wp2_with fail;go_ret;exact⟨rfl,b.o⟩
end Go.Proofs.YtejpbijeifjdeaaGreat
