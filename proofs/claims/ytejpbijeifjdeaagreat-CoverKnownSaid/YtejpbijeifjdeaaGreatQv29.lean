/- Parts of the proof. -/
import Derived.Test.YtejpbijeifjdeaaGreatQv27
import Derived.Deep.RegionLaw
set_option maxHeartbeats 4000000
set_option maxRecDepth 100000
open Go.Value renaming int→Aa
open Go.IntKind renaming i64→Ab
open Nat renaming le_refl→Ae
open Go.RowKit.Below renaming refl→Af
open Go.IntWalk renaming i64_in→Ag
open List renaming getElem?_eq_getElem→Ai
open Go.Proofs.Tryz
open Go.Proofs.Tryz renaming prog→Ad
namespace Go.Proofs.YtejpbijeifjdeaaGreat
open Go.RowKit Go.Acc
variable {k n4 c4 n:Nat}{t:TypeId}{cs:Array Value}{ops:Array Oper}{o:Oper}{a:Act}{w wv w4:World}{K:Act→World→Prop}{Q:Exit→Act→World→Prop}{E:Prop}{s:Bj}{b c:Int}{A4 A:Option Addr}
theorem cM(a b c a' b' c':Int)(z:Bool)(w:World)(hz:decide (E8 (a,b,c) (a',b',c'))=z):
  Calls Ad 162 #[.agg #[Aa Ab a,Aa Ab b,Aa Ab c],.agg #[Aa Ab a',Aa Ab b',Aa Ab c']] w (Ab5 (.bool z) w):=by
 have e:(a<a'∧z=true)∨(a'<a∧z=false)∨(a=a'∧((b<b'∧z=true)∨(b'<b∧z=false)∨(b=b'∧((c<c'∧z=true)∨(¬c<c'∧z=false))))):=by
  cases z with
  |true=>
   have h:=of_decide_eq_true hz;unfold E8 at h;simp only at h;simp only [and_true,reduceCtorEq,and_false,or_false,false_or];omega
  |false=>
   have h:=of_decide_eq_false hz;unfold E8 at h;simp only at h;simp only [and_true,reduceCtorEq,and_false,false_or];omega
 have f:=Hd e;clear e hz;have j:=Hd ((Bb.new w 46 #[Aa Ab a,Aa Ab b,Aa Ab c]).alloc (.cells #[Aa Ab a',Aa Ab b',Aa Ab c'] 46));have i:=Hd (Bb.new_ (w:=w.alloc (.cells #[Aa Ab a,Aa Ab b,Aa Ab c] 46)) (g:=w.heap.size+1) (by simp) 46 #[Aa Ab a',Aa Ab b',Aa Ab c']);have d:=Hd (((Af w.heap.size w).alloc (Ae _) (.cells #[Aa Ab a,Aa Ab b,Aa Ab c] 46)).alloc ((Af w.heap.size w).alloc (Ae _) (.cells #[Aa Ab a,Aa Ab b,Aa Ab c] 46)).size (.cells #[Aa Ab a',Aa Ab b',Aa Ab c'] 46));go_enter func162,ntmps162;go_upto_region 1 with fail
 generalize (w.alloc (.cells #[Aa Ab a,Aa Ab b,Aa Ab c] 46)).alloc (.cells #[Aa Ab a',Aa Ab b',Aa Ab c'] 46)=w1 at j i d⊢;generalize w.heap.size+1=gY at i⊢;obtain ⟨n,p,q⟩:=j.o.c3;obtain ⟨r,s,t⟩:=i.o.c3;rcases f.o with⟨h,rfl⟩|⟨h,rfl⟩|⟨rfl,⟨h,rfl⟩|⟨h,rfl⟩|⟨rfl,⟨h,rfl⟩|⟨h,rfl⟩⟩⟩
 ·have k:(a != a')=true:=by simpa using(show a≠a' by omega)
  go_wp2;go_ret;exact⟨rfl,d.o⟩
 ·have k:(a != a')=true:=by simpa using(show a≠a' by omega)
  have l:¬a<a':=by omega
  clear h;go_wp2;go_ret;exact⟨rfl,d.o⟩
 ·go_wp2;go_ret;exact⟨rfl,d.o⟩
 ·have l:¬b<b':=by omega
  have m:(b==b')=false:=beq_eq_false_iff_ne.mpr (by omega);clear h;go_wp2;go_ret;exact⟨rfl,d.o⟩
 ·go_wp2;go_ret;exact⟨rfl,d.o⟩
 ·go_wp2;go_ret;exact⟨rfl,d.o⟩
theorem pE(t:Int)(w:World):Calls Ad 163 #[Aa Ab t] w (Ab6 (Aa Ab (if t=0 then 1 else if t=1 then 2 else if t=2 then 3 else 4)) w):=by
 by_cases h0:t=0
 ·subst h0;go_enter func163,ntmps163;go_wp2;go_ret;exact⟨rfl,rfl⟩
 have a:(t==0)=false:=beq_eq_false_iff_ne.mpr h0;by_cases h1:t=1
 ·subst h1;go_enter func163,ntmps163;go_wp2;go_ret;exact⟨rfl,rfl⟩
 have b:(t==1)=false:=beq_eq_false_iff_ne.mpr h1;by_cases h2:t=2
 ·subst h2;go_enter func163,ntmps163;go_wp2;go_ret;exact⟨rfl,rfl⟩
 have c:(t==2)=false:=beq_eq_false_iff_ne.mpr h2;rw [if_neg h0,if_neg h1,if_neg h2];clear h0 h1 h2;go_enter func163,ntmps163;go_wp2;go_ret;exact⟨rfl,rfl⟩
def hcl(x:P3):List Value:=[Aa Ab x.1,Aa Ab 0,Aa Ab x.2.1,Aa Ab x.2.2]
theorem Wr(x:P3):(hcl x).length=4:=rfl
theorem vQ(x:P3):∀u∈hcl x,u.oneCell'=true:=by
 intro u hu;simp [hcl] at hu;rcases hu with rfl|rfl|rfl|rfl <;>rfl
abbrev xZ:=Is hcl
abbrev Zo:=Go.Acc.Own hcl 4 70
theorem zD:(Ad.info? 70).map (fun i=>(i.zero,i.size,i.bytes))=some (some (.agg (Ab9 0 0 0 0)),4,32):=by kernel_rfl
structure Ie where
 B0:Nat
 B2:Nat
 bw:Nat
 A:Option Addr
 n:Nat
 c:Nat
 l:List UInt8
structure Ie.Ok(E:Ie):Prop where
 hA:∀ad,E.A=some ad→ad.block<E.B0
 w0:E.B0≤E.bw
 w2:E.bw<E.B2
 hc:E.n≤E.c
 hn:E.n≤4294967296
abbrev E9:=Option Nat×Option Nat
structure D4(E:Ie)(g:E9)(s:Bj)(w:World):Prop where
 ok:E.Ok
 b:B4 w E.A E.n E.l
 R:∃Ah nh ch Al nl cl,Bb w E.bw 123 #[.slice E.A E.n E.c,Aa Ab s.left,.slice Ah nh ch,.slice Al nl cl]∧Zo w E.B2 Ah nh ch s.had∧F9 w E.B2 Al nl cl (Cx s.o)∧Ah.map (·.block)=g.1∧Al.map (·.block)=g.2
 sz:E.B2≤w.heap.size
def Ie.Free(E:Ie)(g:E9)(k:Nat):Prop:=k≠E.bw∧g.1≠some k∧g.2≠some k
structure D9(E:Ie)(g g':E9)(w w':World):Prop where
 fr:Fr (fun k=>¬E.Free g k) w w'
 keep:∀k,k<w.heap.size→E.Free g k→E.Free g' k
section
variable {E:Ie} {s:Bj} {g g' g'':E9} {w w' w'':World}
theorem D9.refl(E:Ie)(g:E9)(w:World):D9 E g g w w:=⟨Fr.refl _ _,fun _ _ h=>h⟩
theorem D9.of_below(hb:Below w.heap.size w w'):D9 E g g w w':=⟨Fr.of_below hb _,fun _ _ h=>h⟩
theorem D9.trans(h:D9 E g g' w w')(h':D9 E g' g'' w' w''):D9 E g g'' w w'':=
 ⟨h.fr.trans h'.fr (fun k hk hn hf=>hn (h.keep k hk hf)),fun k hk hf=>h'.keep k (Nat.lt_of_lt_of_le hk h.fr.size) (h.keep k hk hf)⟩
theorem D9.below(h:D9 E g g' w w')(hb:Below w'.heap.size w' w''):D9 E g g' w w'':=h.trans (D9.of_below hb)
theorem D9.drew(h:D9 E g g' w w'):D9 E g g' w w'.drew:=h.below ((Af _ _).drew)
theorem D9.alloc(h:D9 E g g' w w')(o:Obj):D9 E g g' w (w'.alloc o):=h.below ((Af _ _).alloc (Ae _) o)
def Gy(E:Ie)(g:E9)(w:World)(k:Nat)(t:TypeId)(cs:Array Value):Prop:=Bb w k t cs∧E.Free g k
theorem Gy.to(h:Gy E g w k t cs)(ht:D9 E g g' w w'):Gy E g' w' k t cs:=⟨h.1.fr ht.fr (fun hn=>hn h.2),ht.keep k h.1.lt h.2⟩
theorem Gy.pure(h:Gy E g w k t cs)(hb:Below w.heap.size w w'):Gy E g w' k t cs:=⟨h.1.pure hb,h.2⟩
theorem Gy.drew(h:Gy E g w k t cs):Gy E g w.drew k t cs:=h
theorem D4.pure(h:D4 E g s w)(hb:Below w.heap.size w w'):D4 E g s w':=by
 obtain⟨Ah,nh,ch,Al,nl,cl,h1,h2,h3,h4,h5⟩:=h.R;exact⟨h.ok,h.b.pure hb,⟨Ah,nh,ch,Al,nl,cl,h1.pure hb,h2.pure hb,h3.pure hb,h4,h5⟩,Nat.le_trans h.sz hb.size⟩
theorem D4.drew(h:D4 E g s w):D4 E g s w.drew:=h.pure ((Af _ _).drew)
theorem D4.alloc(h:D4 E g s w)(o:Obj):D4 E g s (w.alloc o):=h.pure ((Af _ _).alloc (Ae _) o)
theorem D4.len(h:D4 E g s w):E.l.length=E.n:=h.b.1
theorem D4.row1(h:D4 E g s w):∀k,g.1=some k→E.B2≤k∧k<w.heap.size:=by
 obtain⟨Ah,nh,ch,Al,nl,cl,h1,h2,h3,h4,h5⟩:=h.R;intro k hk;cases Ah with
 |none=>rw [←h4] at hk;cases hk
 |some ad=>
  rw [←h4] at hk;injection hk with hk
  subst hk;exact⟨(h2.addr ad rfl).2.1,(h2.addr ad rfl).2.2⟩
theorem D4.row2(h:D4 E g s w):∀k,g.2=some k→E.B2≤k∧k<w.heap.size:=by
 obtain⟨Ah,nh,ch,Al,nl,cl,h1,h2,h3,h4,h5⟩:=h.R;intro k hk;cases Al with
 |none=>rw [←h5] at hk;cases hk
 |some ad=>
  rw [←h5] at hk;injection hk with hk
  subst hk;exact⟨(h3.addr ad rfl).2.1,(h3.addr ad rfl).2.2⟩
theorem D4.newer(h:D4 E g s w)(hk:w.heap.size≤k):E.Free g k:=by
 have:=h.sz;have:=h.ok.w2;refine⟨by omega,fun e=>?_,fun e=>?_⟩
 ·have:=(h.row1 _ e).2;omega
 ·have:=(h.row2 _ e).2;omega
theorem D4.lone(h:D4 E g s w)(t:TypeId)(cs:Array Value):Gy E g (w.alloc (.cells cs t)) w.heap.size t cs:=⟨Bb.new w t cs,h.newer (Ae _)⟩
theorem D4.low(h:D4 E g s w)(hk:k<E.B0):E.Free g k:=by
 have:=h.ok.w0;have:=h.ok.w2;refine⟨by omega,fun e=>?_,fun e=>?_⟩
 ·have:=(h.row1 _ e).1;omega
 ·have:=(h.row2 _ e).1;omega
theorem D9.belowB(h:D9 E g g' w w')(hw:D4 E g s w):Below E.B0 w w':=by
 refine h.fr.belowB (fun k hk hn=>hn (hw.low hk)) ?_;have:=hw.sz;have:=hw.ok.w0;have:=hw.ok.w2;omega
theorem D4.c0(h:D4 E g s w):w.cell? ⟨E.bw,0,none⟩=some (.slice E.A E.n E.c):=by
 obtain⟨_,_,_,_,_,_,h1,_⟩:=h.R;exact h1.cell 0
theorem D4.c1(h:D4 E g s w):w.cell? ⟨E.bw,1,none⟩=some (Aa Ab s.left):=by
 obtain⟨_,_,_,_,_,_,h1,_⟩:=h.R;exact h1.cell 1
theorem D4.frozen(h:D4 E g s w)(i:Nat):w.frozen? ⟨E.bw,i,none⟩=false:=by
 obtain⟨_,_,_,_,_,_,h1,_⟩:=h.R;exact h1.frozen i
end
def Mr(E:Ie)(g:E9)(s':Bj)(w w':World):Prop:=∃g',D4 E g' s' w'∧D9 E g g' w w'
def iE(E:Ie)(g:E9)(w:World)(y:Bj×Int)(e:Ending)(w':World):Prop:=e= .returned (Aa Ab y.2)∧Mr E g y.1 w w'
theorem aK(x:P3):∀(L:List P3) (k:Nat),k≤L.length→(∀j y,j<k→L[j]?=some y→E8 y x)→(∀y,L[k]?=some y→¬E8 y x∧y≠x)→Gg x L=L.take k++ [x]++L.drop k
 | [],k,hk,_,_=>by
  obtain rfl:k=0:=by simpa using hk
  rfl
 |y::L,0,_,_,h=>by
  obtain⟨h1,h2⟩:=h y rfl;simp [Gg,h1,h2]
 |y::L,k+1,hk,h,h'=>by
  have a:E8 y x:=h 0 y (by omega) rfl;have b:=aK x L k (by simpa using hk) (fun j z hj hz=>h (j+1) z (by omega) (by simpa using hz)) (fun z hz=>h' z (by simpa using hz));simp [Gg,a,b]
theorem aL(x:P3):∀(L:List P3) (k:Nat),(∀j y,j<k→L[j]?=some y→E8 y x)→L[k]?=some x→Gg x L=L
 | [],k,_,h=>by simp at h
 |y::L,0,_,h=>by
  obtain rfl:y=x:=by simpa using h
  simp [Gg,Mh]
 |y::L,k+1,h,h'=>by
  have hy:E8 y x:=h 0 y (by omega) rfl;have ih:=aL x L k (fun j z hj hz=>h (j+1) z (by omega) (by simpa using hz)) (by simpa using h');simp [Gg,hy,ih]
theorem R1(s:Bj)(a b c:Int)(h:a<b):Cx (s.tell a b c).o=Gg (a,b,c) (Cx s.o):=by
 unfold Bj.tell;rw [if_pos h];exact Y9 _ _
theorem fN(A:Option Addr)(n c M:Nat)(h:M≤c)(w:World):(Instr.sliceAt 42 (.slice A n c) none (some (Aa Ab M)) none).run Ad w= .ok (.slice A M c) w:=by
 have ht:Ad.underlying 42=some (.slice (Ad.elem 42)):=by kernel_rfl
 have a:(sizeOf (Ad.elem 42)).run Ad w= .ok 3 w:=by kernel_rfl
 rw [run_sliceAt_slice (h:=ht),run_slice_h (ht:=ht) (h0:=by omega) (h2:=by omega),a];simp [Result.andThen,sliced];intro _;cases A <;>simp [Addr.add]
theorem X5(A:Option Addr)(n c lo:Nat)(h1:lo≤n)(hc:n≤c):∃X,(∀w,(Instr.sliceAt 42 (.slice A n c) (some (Aa Ab lo)) none none).run Ad w= .ok (.slice X (n-lo) (c-lo)) w)∧
  ∀w l,J0 w A n l→J0 w X (n-lo) (l.drop lo):=by
 refine⟨if c=lo then A else A.map (·.add (lo*3)),fun w=>?_,fun w l h=>?_⟩
 ·have ht:Ad.underlying 42=some (.slice (Ad.elem 42)):=by kernel_rfl
  have a:(sizeOf (Ad.elem 42)).run Ad w= .ok 3 w:=by kernel_rfl
  rw [run_sliceAt_slice (h:=ht),run_slice_l (ht:=ht) (h0:=by omega) (h1:=by omega),a];simp [Result.andThen,sliced]
 ·split
  ·rename_i e;exact h.cut0 e hc
  ·exact h.cut1 Gt
theorem Gl(hgd:o.guard=none)(s x:Operand)
  (ho:o.op= .call { callee:= .builtin .append,args:=#[s,x],argTypes:=#[42,42]})
  (B:Nat) (A:Option Addr) (n c:Nat) (l:List P3) (hs:a.eval s= .slice A n c) (hown:F9 w B A n c l)
  (A2:Option Addr) (m d:Nat) (l2:List P3) (hx:a.eval x= .slice A2 m d) (hr:J0 w A2 m l2)
  (hbytes:n+m≤1099511627776) (hbase:B≤w.heap.size)
  (h:∀A' c' w',F9 w' B A' (n+m) c' (l++l2)→Fr (fun k=>∃ad,A=some ad∧k=ad.block) w w'→K (a.put o.dst (.slice A' (n+m) c')) w'):
  if Region.wanted o (yielded ops a.tmps)=true then Oper.wp Ad o a w K Q else E:=by
 have r:Region.wanted o (yielded ops a.tmps)=true:=by simp [Region.wanted,hgd]
 rw [if_pos r];obtain⟨i,j,t,b,g⟩:=info_parts nJ;have p:n+m≤maxLen:=by simp only [maxLen];omega
 obtain⟨u,w',f,h2,h3,_⟩:=Ii (P:=Ad) w B 42 o.type 46 i _ 3 24 underlying42 j t b g rfl (by omega) (.slice A n c) n (l.flatMap pc) hown.2 A2 m d (l2.flatMap pc) (by rw [Cd Gt,hr.1]) hr.2 (Mw bZ l2) p (by omega) hbase;obtain⟨A',c',rfl,e⟩:=Own.mk Gt (by omega) (l:=l++l2) h2 List.flatMap_append.symm;have q:=h A' c' w' e ((Fr.of_grown h3).mono fun i _ hi=>by
  cases A with
  |none=>simp [Value.ownBlock] at hi
  |some ad=>simp [Value.ownBlock] at hi;exact⟨ad,rfl,hi⟩)
 clear h e h2 h3;unfold Oper.wp;simp only [execOp,ho,resolve,invoke,builtin,Sem.run_bind,Sem.run_pure,Result.andThen_ok,List.map_toArray,List.map_cons,List.map_nil,hs,hx,f];exact q
theorem Ys{E:Ie}{g0 g:E9}{a:Int}{L':List P3}(h:D4 E g s wv)(ht:D9 E g0 g w wv)(hb:Below wv.heap.size wv w4)(ho:F9 w4 wv.heap.size A4 n4 c4 L')(hL:Cx (s.tell a b c).o=L'):
  Mr E g0 (s.tell a b c) w (w4.setCell ⟨E.bw,3,none⟩ (.slice A4 n4 c4)):=by
 obtain⟨l,q,m,r,z,t,h1,h2,h3,n,u⟩:=h.R;have j:=h.ok;have i:=h.sz;have p:=j.w2;have f:Fr (fun k=>k=E.bw) w4 (w4.setCell ⟨E.bw,3,none⟩ (.slice A4 n4 c4)):=Fr.setCell (S:=fun k=>k=E.bw) (Fr.refl _ _) (fun _=>rfl) _;have d:∀ad,A4=some ad→wv.heap.size≤ad.block:=fun ad had=>(ho.addr ad had).2.1
 refine⟨(g.1,A4.map (·.block)),⟨j,?_,⟨l,q,m,A4,n4,c4,?_,?_,?_,n,rfl⟩,?_⟩,ht.trans ⟨?_,?_⟩⟩
 ·refine(h.b.pure hb).fr f (fun ad had e=>?_);have:=j.hA ad had;have:=j.w0;omega
 ·rw [E0];exact(h1.pure hb).set_ 3 _
 ·rw [Ia];refine(h2.pure hb).fr f (fun ad had e=>?_);have:=(h2.addr ad had).2.1;have e:ad.block=E.bw:=e;omega
 ·rw [hL];refine(ho.rebase i).fr f (fun ad had e=>?_);have v:=d ad had;have e:ad.block=E.bw:=e;omega
 ·exact Nat.le_trans i (Nat.le_trans hb.size f.size)
 ·exact(Fr.of_below hb _).trans f (fun k _ e hF=>hF.1 e)
 ·intro k y hF;refine⟨hF.1,hF.2.1,fun e=>?_⟩;cases A4 with
  |none=>cases e
  |some ad=>
   injection e with e
   have x:=d ad rfl;have e:ad.block=k:=e;omega
theorem qA{E:Ie}{g:E9}{a:Int}(h:D4 E g s w)(hs:Cx (s.tell a b c).o=Cx s.o):D4 E g (s.tell a b c) w:=by
 obtain⟨Ah,nh,ch,Al,nl,cl,h1,h2,h3,h4,h5⟩:=h.R;refine⟨h.ok,h.b,⟨Ah,nh,ch,Al,nl,cl,?_,?_,?_,h4,h5⟩,h.sz⟩
 ·rw [E0];exact h1
 ·rw [Ia];exact h2
 ·rw [hs];exact h3
theorem tG(E:Ie)(g:E9)(s:Bj)(a b c:Int)(w:World)(h:D4 E g s w)(hab:a≤b)(hs:s.o.length≤1073741824)(hmid:∃y∈Cx s.o,¬E8 y (a,b,c)):
  Calls Ad 88 #[Aca E.bw,Aa Ab a,Aa Ab b,Aa Ab c] w fun e w'=>e= .returned (.tuple #[])∧Mr E g (s.tell a b c) w w':=by
 have B:=Hd (h.alloc (.cells #[Aa Ab a,Aa Ab b,Aa Ab c] 46));have r:=Hd (h.lone 46 #[Aa Ab a,Aa Ab b,Aa Ab c]);have F:=Hd ((D9.refl E g w).alloc (.cells #[Aa Ab a,Aa Ab b,Aa Ab c] 46));obtain⟨L,hL⟩:∃L,Cx s.o=L:=⟨_,rfl⟩;have av:=Ux s.o;rw [hL] at av hmid;have al:=Hd hmid;clear hmid;obtain⟨Ah,nh,ch,Al,nl,T,h1,h2,h3,h4,h5⟩:=B.o.R;rw [hL] at h3;have m:=Hd h1;have P:=Hd h2;have D:=Hd h3;have HG:=Hd (And.intro h4 h5);have aw:L.length=nl:=h3.1;have ar:=h3.cap.1;have ak:=Hd hL;have Y:=Hd aw;have bz:nl≤1073741824:=by omega
 clear h h1 h2 h3 h4 h5 hL av aw;go_enter func88,ntmps88;go_upto_region 1 with fail
 generalize w.alloc (.cells #[Aa Ab a,Aa Ab b,Aa Ab c] 46)=w1 at B r F m P D⊢;generalize w.heap.size=bx at r⊢;go_wp2_with fail;go_loopw [9] (fun i wr=>∃k:Nat,k≤nl∧i= Aa Ab k∧Below w1.heap.size w1 wr∧∀j y,j<k→L[j]?=some y→E8 y (a,b,c)) (fun i _=>nl-(intOf i).toNat)
 case atStart=>exact⟨0,by omega,rfl,Af _ _,fun j y hj=>absurd hj (Nat.not_lt_zero _)⟩
 case round=>
  obtain⟨k,hk,rfl,n,U⟩:=hrel;replace B:=Hd (B.o.pure n);replace r:=Hd (r.o.pure n);replace F:=Hd (F.o.below n);replace m:=Hd (m.o.pure n);replace P:=Hd (P.o.pure n);replace D:=Hd (D.o.pure n);have HB:=Hd n;have t:=Hd U;clear n U;have u:_=some (Value.slice Al nl T):=m.o.cell 3;have M:_=some (Aa Ab a):=r.o.1.cell 0;have N:_=some (Aa Ab b):=r.o.1.cell 1;have O:_=some (Aa Ab c):=r.o.1.cell 2;by_cases au:k<nl
  ·obtain⟨Q,S,e2,h2⟩:=G9 D.o.is au;subst e2;obtain⟨⟨x,y,z⟩,hx⟩:∃x,L[k]?=some x:=⟨_,Ai (by rw [Y.o];exact au)⟩;obtain⟨a0,a1,a2⟩:=h2 x y z hx;obtain⟨q,hq⟩:∃q,decide (E8 (x,y,z) (a,b,c))=q:=⟨_,rfl⟩;have HQ:=Hd hq;have ab:=Hd hx;have bt:(0:Int)≤k:=by omega
   have bu:(k:Int)<nl:=by omega
   have b0:IntKind.i64.wrap ((k:Int)+1)=(k:Int)+1:=Ag _ (by omega);clear h2 hx hq;obtain⟨wz,rfl⟩:∃wo:World,wo=wr:=⟨_,rfl⟩;go_wp2_with fail;go_region_held3 (fun w'=>w'.cell? ⟨E.bw,3,none⟩=some (.slice (some ⟨Q,S,none⟩) nl T)∧(w'.cell? ⟨bx,0,none⟩=some (Aa Ab a)∧w'.cell? ⟨bx,1,none⟩=some (Aa Ab b)∧w'.cell? ⟨bx,2,none⟩=some (Aa Ab c))∧(w'.cell? ⟨Q,S+k*3,none⟩=some (Aa Ab x)∧w'.cell? ⟨Q,S+k*3+1,none⟩=some (Aa Ab y)∧w'.cell? ⟨Q,S+k*3+2,none⟩=some (Aa Ab z)))
    (first|with_reducible exact⟨u,⟨M,N,O⟩,a0,a1,a2⟩|with_reducible exact⟨Bw u,⟨Bw M,Bw N,Bw O⟩,Bw a0,Bw a1,Bw a2⟩)
    (first|(go_at_call 162;(with_reducible refine(cM x y z a b c q _ HQ.o).mono ?_);rintro e w5 ⟨rfl,n⟩;have p:=Hd (B5 (Fb wz) n);replace u:=Ba n (Bw u);replace M:=Ba n (Bw M);replace N:=Ba n (Bw N);replace O:=Ba n (Bw O);replace a0:=Ba n (Bw a0);replace a1:=Ba n (Bw a1);replace a2:=Ba n (Bw a2);clear n))
   cases q with
   |true=>
    clear u M N O a0 a1 a2;go_wp2_with fail;go_roundw
    case rel=>
     refine⟨k+1,by omega,by go_num,A6 HB.o p.o,fun j y' hj hy=>?_⟩;by_cases e:j=k
     ·subst e;rw [ab.o] at hy;injection hy with hy
      subst hy;exact of_decide_eq_true HQ.o
     ·exact t.o j y' (by omega) hy
    case measure=>simp [intOf];omega
   |false=>
    have V:=of_decide_eq_false HQ.o;have am:=Hd V;clear V;replace B:=Hd (B.o.pure p.o);replace r:=Hd (r.o.pure p.o);replace F:=Hd (F.o.below p.o);replace m:=Hd (m.o.pure p.o);replace P:=Hd (P.o.pure p.o);replace D:=Hd (D.o.pure p.o);go_wp2_with fail;clear HB p;generalize w5=wv at B r F m P D u M N O a0 a1 a2⊢;by_cases ae:a<b
    ·have e1:(a==b)=false:=beq_eq_false_iff_ne.mpr (by omega);by_cases C:(x,y,z)=(a,b,c)
     ·have be:=Nf (x,y,z) (a,b,c) true (decide_eq_true C);have K:s.tell a b c={ s with o:=s.o++ [(a,b,c)]}:=if_pos ae;have J:Cx (s.tell a b c).o=Cx s.o:=by
       rw [R1 s a b c ae,ak.o];exact aL _ _ k t.o (by rw [ab.o,C])
      have aa:=Hd (And.intro K J);clear C K J;go_quiet (fail);go_wp2_with fail;have HD:=Hd (below_drewN (Af wv.heap.size wv) nq);refine bodyPost_ret (results_none rfl _ _ _) rfl ?_;exact⟨rfl,g,qA (B.o.pure HD.o) aa.o.2,F.o.below HD.o⟩
     ·have be:=Nf (x,y,z) (a,b,c) false (decide_eq_false C);have J:Cx (s.tell a b c).o=L.take k++ [(a,b,c)]++L.drop k:=by
       rw [R1 s a b c ae,ak.o];refine aK _ _ k (by rw [Y.o];exact hk) t.o (fun y' hy=>?_);rw [ab.o] at hy;injection hy with hy
       subst hy;exact⟨am.o,C⟩
      have aa:=Hd J;clear C J;go_quiet (fail);have bo:=fN (some ⟨Q,S,none⟩) nl T k (by omega);obtain⟨X,bs,aq⟩:=X5 (some ⟨Q,S,none⟩) nl T k hk ar;have ba:=Hd aq;clear aq;go_wp2_with fail;replace B:=Hd (B.o.pure (below_drewN (Af _ _) nq));replace r:=Hd (r.o.pure (below_drewN (Af _ _) nq));replace F:=Hd (F.o.below (below_drewN (Af _ _) nq));replace m:=Hd (m.o.pure (below_drewN (Af _ _) nq));replace P:=Hd (P.o.pure (below_drewN (Af _ _) nq));replace D:=Hd (D.o.pure (below_drewN (Af _ _) nq));clear u M N O;generalize wv.drewN nq=wu at B r F m P D⊢;have u:_=some (Value.slice (some ⟨Q,S,none⟩) nl T):=m.o.cell 3;have M:_=some (Aa Ab a):=r.o.1.cell 0;have N:_=some (Aa Ab b):=r.o.1.cell 1;have O:_=some (Aa Ab c):=r.o.1.cell 2;obtain⟨wd,ax⟩:∃wd,wd=wu.drew:=⟨_,rfl⟩;have A:=Hd (show Below wu.heap.size wu wd by rw [ax];exact Fb wu);have an:=Hd ((D.o.is.take Gt hk).pure A.o);have bb:=Hd (an.o.alloc (.cells #[Aa Ab a,Aa Ab b,Aa Ab c] 46));have bd:=Hd (Ou wd a b c);subst ax;have k3:=fun o=>Dj o u
      have k0:=fun o=>Dj o M
      have k1:=fun o=>Dj o N
      have k2:=fun o=>Dj o O
      go_region_law (first
       |(refine Gl rfl (.tmp 59) (.tmp 65) rfl wu.heap.size none 0 0 [] rfl (Own.nil _ _) (some ⟨Q,S,none⟩) k T (L.take k) rfl an.o (by omega) (Ae wu.heap.size) ?_;intro A2 H w2 d l;have G:=Hd (show F9 w2 wu.heap.size A2 k H (L.take k) by simpa using d);have f:=Hd (Cf A.o l (fun j ⟨ad,e,_⟩=>by cases e));have I:=Ba f.o u;have a3:=Ba f.o M;have a4:=Ba f.o N;have a5:=Ba f.o O;have ay:=fun o=>Dj o I;simp only [Nat.zero_add];clear d l)
       |(refine Gl rfl (.tmp 59) (.tmp 65) rfl wu.heap.size none 0 0 [] rfl (Own.nil _ _) (some ⟨Q,S,none⟩) k T (L.take k) rfl bb.o (by omega) (show wu.heap.size≤(wu.drew.alloc (.cells #[Aa Ab a,Aa Ab b,Aa Ab c] 46)).heap.size from(A.o.alloc A.o.size (.cells #[Aa Ab a,Aa Ab b,Aa Ab c] 46)).size) ?_;intro A2 H w2 d l;have G:=Hd (show F9 w2 wu.heap.size A2 k H (L.take k) by simpa using d);have f:=Hd (Cf (A.o.alloc A.o.size (.cells #[Aa Ab a,Aa Ab b,Aa Ab c] 46)) l (fun j ⟨ad,e,_⟩=>by cases e));have a7:=Hd (bd.o.fr l (fun ad e ⟨ad',e',_⟩=>by cases e'));have I:=Ba f.o u;have a3:=Ba f.o M;have a4:=Ba f.o N;have a5:=Ba f.o O;have ay:=fun o=>Dj o I;simp only [Nat.zero_add];clear d l)
       |(refine Gl rfl (.tmp 66) (.tmp 68) rfl wu.heap.size A2 k H (L.take k) rfl (G.o.pure ((Af _ _).alloc (Ae _) (.cells #[Aa Ab a,Aa Ab b,Aa Ab c] 46))) (some ⟨w2.heap.size,0,none⟩) 1 1 [(a,b,c)] rfl (Ou w2 a b c) (by omega) (f.o.alloc f.o.size (.cells #[Aa Ab a,Aa Ab b,Aa Ab c] 46)).size ?_;intro A3 ao w3 d l;have Z:=Hd d;have v:=Hd (Cf (f.o.alloc f.o.size (.cells #[Aa Ab a,Aa Ab b,Aa Ab c] 46)) l (by rintro j ⟨ad,e,rfl⟩;exact(G.o.addr ad e).2.1));have ap:=Ba v.o u;clear d l)
       |(refine Gl rfl (.tmp 66) (.tmp 68) rfl wu.heap.size A2 k H (L.take k) rfl G.o (some ⟨wu.heap.size,0,none⟩) 1 1 [(a,b,c)] rfl a7.o (by omega) f.o.size ?_;intro A3 ao w3 d l;have Z:=Hd d;have v:=Hd (Cf f.o l (by rintro j ⟨ad,e,rfl⟩;exact(G.o.addr ad e).2.1));have ap:=Ba v.o u;clear d l)
       |(refine Gl rfl (.tmp 69) (.tmp 75) rfl wu.heap.size A3 (k+1) ao (L.take k++ [(a,b,c)]) rfl Z.o X (nl-k) (T-k) (L.drop k) rfl (ba.o _ _ (D.o.is.pure v.o)) (by omega) v.o.size ?_;intro A4 c4 w4 d l;have a8:=Hd d;have W:=Hd (Cf v.o l (by rintro j ⟨ad,e,rfl⟩;exact(Z.o.addr ad e).2.1));have bk:=Ba W.o u;have bl:=(m.o.pure W.o).frozen 3;clear d l))
      all_goals
       go_wp2_with fail;go_end0;exact⟨rfl,Ys B.o F.o W.o a8.o aa.o⟩
    ·obtain rfl:a=b:=by omega
     go_quiet (fail);go_wp2_with fail;have HD:=Hd (below_drewN (Af wv.heap.size wv) nq);refine bodyPost_ret (results_none rfl _ _ _) rfl ?_;have bg:s.tell a a c=s:=if_neg (by omega);rw [bg];exact⟨rfl,g,B.o.pure HD.o,F.o.below HD.o⟩
  ·obtain⟨y,hy,hn⟩:=al.o;obtain⟨j,hj,e⟩:=List.mem_iff_getElem.1 hy;exact absurd (t.o j y (by have:=Y.o;omega) (by rw [Ai hj,e])) hn
theorem pG(E:Ie)(g:E9)(s:Bj)(a b c:Int)(w:World)(h:D4 E g s w)(hab:a≤b)(hs:s.o.length≤1073741824)(hmid:∀y∈Cx s.o,E8 y (a,b,c)):
  Calls Ad 88 #[Aca E.bw,Aa Ab a,Aa Ab b,Aa Ab c] w fun e w'=>e= .returned (.tuple #[])∧Mr E g (s.tell a b c) w w':=by
 have A:=Hd (h.alloc (.cells #[Aa Ab a,Aa Ab b,Aa Ab c] 46));have n:=Hd (h.lone 46 #[Aa Ab a,Aa Ab b,Aa Ab c]);have G:=Hd ((D9.refl E g w).alloc (.cells #[Aa Ab a,Aa Ab b,Aa Ab c] 46));obtain⟨L,hL⟩:∃L,Cx s.o=L:=⟨_,rfl⟩;have aj:=Ux s.o;rw [hL] at aj hmid;have V:=Hd hmid;clear hmid;obtain⟨Ah,nh,ch,O,nl,K,h1,h2,h3,h4,h5⟩:=A.o.R;rw [hL] at h3;have m:=Hd h1;have J:=Hd h2;have v:=Hd h3;have HG:=Hd (And.intro h4 h5);have ak:L.length=nl:=h3.1;have ai:=h3.cap.1;have ay:=Hd hL;have Q:=Hd ak;have bs:nl≤1073741824:=by omega
 clear h h1 h2 h3 h4 h5 hL aj ak;go_enter func88,ntmps88;go_upto_region 1 with fail
 generalize w.alloc (.cells #[Aa Ab a,Aa Ab b,Aa Ab c] 46)=w1 at A n G m J v⊢;generalize w.heap.size=bx at n⊢;go_wp2_with fail;go_loopw [9] (fun i wr=>∃k:Nat,k≤nl∧i= Aa Ab k∧Below w1.heap.size w1 wr∧∀j y,j<k→L[j]?=some y→E8 y (a,b,c)) (fun i _=>nl-(intOf i).toNat)
 case atStart=>exact⟨0,by omega,rfl,Af _ _,fun j y hj=>absurd hj (Nat.not_lt_zero _)⟩
 case round=>
  obtain⟨k,hk,rfl,p,N⟩:=hrel;replace A:=Hd (A.o.pure p);replace n:=Hd (n.o.pure p);replace G:=Hd (G.o.below p);replace m:=Hd (m.o.pure p);replace J:=Hd (J.o.pure p);replace v:=Hd (v.o.pure p);have HB:=Hd p;have M:=Hd N;clear p N;have r:_=some (Value.slice O nl K):=m.o.cell 3;have B:_=some (Aa Ab a):=n.o.1.cell 0;have C:_=some (Aa Ab b):=n.o.1.cell 1;have D:_=some (Aa Ab c):=n.o.1.cell 2;by_cases T:k<nl
  ·obtain⟨b2,o2,e2,h2⟩:=G9 v.o.is T;subst e2;obtain⟨⟨x,y,z⟩,hx⟩:∃x,L[k]?=some x:=⟨_,Ai (by rw [Q.o];exact T)⟩;obtain⟨Z,a1,a2⟩:=h2 x y z hx;obtain⟨q,hq⟩:∃q,decide (E8 (x,y,z) (a,b,c))=q:=⟨_,rfl⟩;have HQ:=Hd hq;have W:=Hd hx;have bq:(0:Int)≤k:=by omega
   have br:(k:Int)<nl:=by omega
   have bt:IntKind.i64.wrap ((k:Int)+1)=(k:Int)+1:=Ag _ (by omega);clear h2 hx hq;obtain⟨wz,rfl⟩:∃wo:World,wo=wr:=⟨_,rfl⟩;go_wp2_with fail;go_region_held3 (fun w'=>w'.cell? ⟨E.bw,3,none⟩=some (.slice (some ⟨b2,o2,none⟩) nl K)∧(w'.cell? ⟨bx,0,none⟩=some (Aa Ab a)∧w'.cell? ⟨bx,1,none⟩=some (Aa Ab b)∧w'.cell? ⟨bx,2,none⟩=some (Aa Ab c))∧(w'.cell? ⟨b2,o2+k*3,none⟩=some (Aa Ab x)∧w'.cell? ⟨b2,o2+k*3+1,none⟩=some (Aa Ab y)∧w'.cell? ⟨b2,o2+k*3+2,none⟩=some (Aa Ab z)))
    (first|with_reducible exact⟨r,⟨B,C,D⟩,Z,a1,a2⟩|with_reducible exact⟨Bw r,⟨Bw B,Bw C,Bw D⟩,Bw Z,Bw a1,Bw a2⟩)
    (first|(go_at_call 162;(with_reducible refine(cM x y z a b c q _ HQ.o).mono ?_);rintro e w5 ⟨rfl,p⟩;have aw:=Hd (B5 (Fb wz) p);replace r:=Ba p (Bw r);replace B:=Ba p (Bw B);replace C:=Ba p (Bw C);replace D:=Ba p (Bw D);replace Z:=Ba p (Bw Z);replace a1:=Ba p (Bw a1);replace a2:=Ba p (Bw a2);clear p))
   cases q with
   |true=>
    clear r B C D Z a1 a2;go_wp2_with fail;go_roundw
    case rel=>
     refine⟨k+1,by omega,by go_num,A6 HB.o aw.o,fun j y' hj hy=>?_⟩;by_cases e:j=k
     ·subst e;rw [W.o] at hy;injection hy with hy
      subst hy;exact of_decide_eq_true HQ.o
     ·exact M.o j y' (by omega) hy
    case measure=>simp [intOf];omega
   |false=>
    exact absurd (V.o (x,y,z) (List.mem_of_getElem? W.o)) (of_decide_eq_false HQ.o)
  ·have bp:decide (k<nl)=false:=decide_eq_false (by omega);have ax:=Hd (show k=nl by omega);clear T;go_wp2_with fail;go_quiet (fail);go_wp2_with fail;replace A:=Hd (A.o.pure (below_drewN (Af _ _) nq));replace n:=Hd (n.o.pure (below_drewN (Af _ _) nq));replace G:=Hd (G.o.below (below_drewN (Af _ _) nq));replace m:=Hd (m.o.pure (below_drewN (Af _ _) nq));replace J:=Hd (J.o.pure (below_drewN (Af _ _) nq));replace v:=Hd (v.o.pure (below_drewN (Af _ _) nq));clear HB r B C D;generalize wr.drewN nq=wv at A n G m J v⊢;have r:_=some (Value.slice O nl K):=m.o.cell 3;have B:_=some (Aa Ab a):=n.o.1.cell 0;have C:_=some (Aa Ab b):=n.o.1.cell 1;have D:_=some (Aa Ab c):=n.o.1.cell 2;by_cases ba:a<b
   ·have e1:(a==b)=false:=beq_eq_false_iff_ne.mpr (by omega);have ag:Cx (s.tell a b c).o=L.take k++ [(a,b,c)]++L.drop k:=by
     rw [R1 s a b c ba,ay.o];refine aK _ _ k (by rw [Q.o];exact hk) M.o (fun y' hy=>?_);rw [ax.o,List.getElem?_eq_none (by rw [Q.o];exact Ae _)] at hy;cases hy
    have a5:=Hd ag;clear ag;go_quiet (fail);have bl:=fN O nl K k (by omega);obtain⟨X,bo,ah⟩:=X5 O nl K k hk ai;have a6:=Hd ah;clear ah;go_wp2_with fail;replace A:=Hd (A.o.pure (below_drewN (Af _ _) nq));replace n:=Hd (n.o.pure (below_drewN (Af _ _) nq));replace G:=Hd (G.o.below (below_drewN (Af _ _) nq));replace m:=Hd (m.o.pure (below_drewN (Af _ _) nq));replace J:=Hd (J.o.pure (below_drewN (Af _ _) nq));replace v:=Hd (v.o.pure (below_drewN (Af _ _) nq));clear r B C D;generalize wv.drewN nq=wu at A n G m J v⊢;have r:_=some (Value.slice O nl K):=m.o.cell 3;have B:_=some (Aa Ab a):=n.o.1.cell 0;have C:_=some (Aa Ab b):=n.o.1.cell 1;have D:_=some (Aa Ab c):=n.o.1.cell 2;obtain⟨wd,al⟩:∃wd,wd=wu.drew:=⟨_,rfl⟩;have u:=Hd (show Below wu.heap.size wu wd by rw [al];exact Fb wu);have Y:=Hd ((v.o.is.take Gt hk).pure u.o);have a7:=Hd (Y.o.alloc (.cells #[Aa Ab a,Aa Ab b,Aa Ab c] 46));have a8:=Hd (Ou wd a b c);subst al;have k3:=fun o=>Dj o r
    have k0:=fun o=>Dj o B
    have k1:=fun o=>Dj o C
    have k2:=fun o=>Dj o D
    go_region_law (first
     |(refine Gl rfl (.tmp 59) (.tmp 65) rfl wu.heap.size none 0 0 [] rfl (Own.nil _ _) O k K (L.take k) rfl Y.o (by omega) (Ae wu.heap.size) ?_;intro U H w2 d l;have F:=Hd (show F9 w2 wu.heap.size U k H (L.take k) by simpa using d);have f:=Hd (Cf u.o l (fun j ⟨ad,e,_⟩=>by cases e));have I:=Ba f.o r;have ao:=Ba f.o B;have ap:=Ba f.o C;have aq:=Ba f.o D;have am:=fun o=>Dj o I;simp only [Nat.zero_add];clear d l)
     |(refine Gl rfl (.tmp 59) (.tmp 65) rfl wu.heap.size none 0 0 [] rfl (Own.nil _ _) O k K (L.take k) rfl a7.o (by omega) (show wu.heap.size≤(wu.drew.alloc (.cells #[Aa Ab a,Aa Ab b,Aa Ab c] 46)).heap.size from(u.o.alloc u.o.size (.cells #[Aa Ab a,Aa Ab b,Aa Ab c] 46)).size) ?_;intro U H w2 d l;have F:=Hd (show F9 w2 wu.heap.size U k H (L.take k) by simpa using d);have f:=Hd (Cf (u.o.alloc u.o.size (.cells #[Aa Ab a,Aa Ab b,Aa Ab c] 46)) l (fun j ⟨ad,e,_⟩=>by cases e));have az:=Hd (a8.o.fr l (fun ad e ⟨ad',e',_⟩=>by cases e'));have I:=Ba f.o r;have ao:=Ba f.o B;have ap:=Ba f.o C;have aq:=Ba f.o D;have am:=fun o=>Dj o I;simp only [Nat.zero_add];clear d l)
     |(refine Gl rfl (.tmp 66) (.tmp 68) rfl wu.heap.size U k H (L.take k) rfl (F.o.pure ((Af _ _).alloc (Ae _) (.cells #[Aa Ab a,Aa Ab b,Aa Ab c] 46))) (some ⟨w2.heap.size,0,none⟩) 1 1 [(a,b,c)] rfl (Ou w2 a b c) (by omega) (f.o.alloc f.o.size (.cells #[Aa Ab a,Aa Ab b,Aa Ab c] 46)).size ?_;intro A3 ae w3 d l;have S:=Hd d;have t:=Hd (Cf (f.o.alloc f.o.size (.cells #[Aa Ab a,Aa Ab b,Aa Ab c] 46)) l (by rintro j ⟨ad,e,rfl⟩;exact(F.o.addr ad e).2.1));have af:=Ba t.o r;clear d l)
     |(refine Gl rfl (.tmp 66) (.tmp 68) rfl wu.heap.size U k H (L.take k) rfl F.o (some ⟨wu.heap.size,0,none⟩) 1 1 [(a,b,c)] rfl az.o (by omega) f.o.size ?_;intro A3 ae w3 d l;have S:=Hd d;have t:=Hd (Cf f.o l (by rintro j ⟨ad,e,rfl⟩;exact(F.o.addr ad e).2.1));have af:=Ba t.o r;clear d l)
     |(refine Gl rfl (.tmp 69) (.tmp 75) rfl wu.heap.size A3 (k+1) ae (L.take k++ [(a,b,c)]) rfl S.o X (nl-k) (K-k) (L.drop k) rfl (a6.o _ _ (v.o.is.pure t.o)) (by omega) t.o.size ?_;intro A4 c4 w4 d l;have a3:=Hd d;have P:=Hd (Cf t.o l (by rintro j ⟨ad,e,rfl⟩;exact(S.o.addr ad e).2.1));have bh:=Ba P.o r;have bi:=(m.o.pure P.o).frozen 3;clear d l))
    all_goals
     go_wp2_with fail;go_end0;exact⟨rfl,Ys A.o G.o P.o a3.o a5.o⟩
   ·obtain rfl:a=b:=by omega
    go_quiet (fail);go_wp2_with fail;have HD:=Hd (below_drewN (Af wv.heap.size wv) nq);refine bodyPost_ret (results_none rfl _ _ _) rfl ?_;have bb:s.tell a a c=s:=if_neg (by omega);rw [bb];exact⟨rfl,g,A.o.pure HD.o,G.o.below HD.o⟩
theorem D1(E:Ie)(g:E9)(s:Bj)(a b c:Int)(w:World)(h:D4 E g s w)(hab:a≤b)(hs:s.o.length≤1073741824):
  Calls Ad 88 #[Aca E.bw,Aa Ab a,Aa Ab b,Aa Ab c] w fun e w'=>e= .returned (.tuple #[])∧Mr E g (s.tell a b c) w w':=by
 by_cases d:∀y∈Cx s.o,E8 y (a,b,c)
 ·exact pG E g s a b c w h hab hs d
 ·refine tG E g s a b c w h hab hs ?_;refine Decidable.byContradiction fun hno=>d fun y hy=>?_
  exact Decidable.byContradiction fun hn=>hno ⟨y,hy,hn⟩
theorem rP(a b c a' b' c':Int)(q:Bool)(h:decide ((a',b',c')=(a,b,c))=q):∀W:World,(binOp .eql 70 (.agg (Ab9 a' 0 b' c')) (.agg (Ab9 a 0 b c))).run Ad W= .ok (.bool q) W:=by
 intro W;subst h;by_cases h1:a'=a <;>by_cases h2:b'=b <;>by_cases h3:c'=c <;>go_simp
theorem zL{L:List P3}(h:xZ w A n L)(hk:k<n):∃b off,A=some ⟨b,off,none⟩∧∀x y z,L[k]?=some (x,y,z)→w.cell? ⟨b,off+k*4,none⟩=some (Aa Ab x)∧w.cell? ⟨b,off+k*4+1,none⟩=some (Aa Ab 0)∧w.cell? ⟨b,off+k*4+2,none⟩=some (Aa Ab y)∧w.cell? ⟨b,off+k*4+3,none⟩=some (Aa Ab z):=by
 obtain⟨b,off,c,a,h1⟩:=h.at_ Wr (by omega) hk;refine⟨b,off,c,fun x y z hx=>?_⟩;rw [Ai a] at hx;injection hx with hx
 rw [hx] at h1;exact⟨h1 0 (by omega),h1 1 (by omega),h1 2 (by omega),h1 3 (by omega)⟩
theorem Rt{α:Type}{f:α→List Value}{sz:Nat}{e:TypeId}{B c:Nat}{l:List α}{ad:Addr}(h:Go.Acc.Own f sz e w B A n c l)(hA:A=some ad):∃cur,Bb w ad.block e cur:=by
 subst hA;rcases h.2.2 with⟨hv,_⟩|⟨g',cap,cur,hv,hb,hg,_⟩
 ·cases hv
 ·injection hv with h1
  injection h1 with h1
  subst h1;exact⟨cur,hg⟩
theorem pT(hgd:o.guard=none)(s x:Operand)
  (ho:o.op= .call { callee:= .builtin .append,args:=#[s,x],argTypes:=#[97,97]})
  (B:Nat) (A:Option Addr) (n c:Nat) (l:List P3) (hs:a.eval s= .slice A n c) (hown:Zo w B A n c l)
  (A2:Option Addr) (m d:Nat) (l2:List P3) (hx:a.eval x= .slice A2 m d) (hr:xZ w A2 m l2)
  (hbytes:n+m≤1099511627776) (hbase:B≤w.heap.size)
  (h:∀A' c' w',Zo w' B A' (n+m) c' (l++l2)→Fr (fun k=>∃ad,A=some ad∧k=ad.block) w w'→(A'.map (·.block)=A.map (·.block)∨A'.map (·.block)=some w.heap.size)→K (a.put o.dst (.slice A' (n+m) c')) w'):
  if Region.wanted o (yielded ops a.tmps)=true then Oper.wp Ad o a w K Q else E:=by
 have t:Region.wanted o (yielded ops a.tmps)=true:=by simp [Region.wanted,hgd]
 rw [if_pos t];obtain⟨i,p,u,b,j⟩:=info_parts zD;have q:n+m≤maxLen:=by simp only [maxLen];omega
 obtain⟨v,w',f,h2,h3,g⟩:=Ii (P:=Ad) w B 97 o.type 70 i _ 4 32 underlying97 p u b j rfl (by omega) (.slice A n c) n (l.flatMap hcl) hown.2 A2 m d (l2.flatMap hcl) (by rw [Cd Wr,hr.1]) hr.2 (Mw vQ l2) q (by omega) hbase;obtain⟨A',c',rfl,e⟩:=Own.mk Wr (by omega) (l:=l++l2) h2 List.flatMap_append.symm;have r:=h A' c' w' e ((Fr.of_grown h3).mono fun i _ hi=>by
  cases A with
  |none=>simp [Value.ownBlock] at hi
  |some ad=>simp [Value.ownBlock] at hi;exact⟨ad,rfl,hi⟩) (by cases A <;>cases A' <;>simp only [Value.ownBlock,Option.map] at g⊢ <;>exact g)
 clear h e h2 h3 g;unfold Oper.wp;simp only [execOp,ho,resolve,invoke,builtin,Sem.run_bind,Sem.run_pure,Result.andThen_ok,List.map_toArray,List.map_cons,List.map_nil,hs,hx,f];exact r
theorem pI{E:Ie}{g0 g:E9}{x:P3}{Ah:Option Addr}{nh ch nl cl:Nat}{Al:Option Addr}
  (h:D4 E g s wv) (ht:D9 E g0 g w wv) (h1:Bb wv E.bw 123 #[.slice E.A E.n E.c,Aa Ab s.left,.slice Ah nh ch,.slice Al nl cl]) (h2:Zo wv E.B2 Ah nh ch s.had) (h3:F9 wv E.B2 Al nl cl (Cx s.o)) (h4:Ah.map (·.block)=g.1) (h5:Al.map (·.block)=g.2)
  (hf:Fr (fun k=>∃ad,Ah=some ad∧k=ad.block) wv w4) (hat:A4.map (·.block)=Ah.map (·.block)∨∃k,A4.map (·.block)=some k∧wv.heap.size≤k) (ho:Zo w4 E.B2 A4 n4 c4 (s.had++ [x])):
  Mr E g0 (s.see x) w (w4.setCell ⟨E.bw,2,none⟩ (.slice A4 n4 c4)):=by
 have l:=h.ok;have u:=h.sz;have v:=l.w2;have C:=l.w0;have a:Fr (fun k=>k=E.bw) w4 (w4.setCell ⟨E.bw,2,none⟩ (.slice A4 n4 c4)):=Fr.setCell (S:=fun k=>k=E.bw) (Fr.refl _ _) (fun _=>rfl) _;have z:∀ad,Ah=some ad→E.B2≤ad.block:=fun ad had=>(h2.addr ad had).2.1
 have q:∀ad,A4=some ad→E.B2≤ad.block:=fun ad had=>(ho.addr ad had).2.1
 have d:∀k,k<E.B2→¬ ∃ad,Ah=some ad∧k=ad.block:=by
  rintro k B ⟨ad,e,rfl⟩;have:=z ad e;omega
 have t:∀ad bd,Al=some ad→Ah=some bd→ad.block≠bd.block:=by
  intro ad bd m p y;have i:=Rt h3 m;have r:=Rt h2 p;rw [y] at i;obtain⟨G,D⟩:=i;obtain⟨H,F⟩:=r;exact Bb.ne_ D F (by decide) rfl
 refine⟨(A4.map (·.block),g.2),⟨l,?_,⟨A4,n4,c4,Al,nl,cl,?_,?_,?_,rfl,h5⟩,?_⟩,ht.trans ⟨?_,?_⟩⟩
 ·refine(h.b.fr hf (fun ad had=>d _ ?_)).fr a (fun ad had e=>?_)
  ·have:=l.hA ad had;omega
  ·have:=l.hA ad had;have e:ad.block=E.bw:=e;omega
 ·exact(h1.fr hf (d _ v)).set_ 2 _
 ·refine ho.fr a (fun ad had e=>?_);have f:=q ad had;have e:ad.block=E.bw:=e;omega
 ·refine(h3.fr hf (fun ad had e=>?_)).fr a (fun ad had e=>?_)
  ·obtain⟨bd,m,p⟩:=e;exact t ad bd had m p
  ·have f:=(h3.addr ad had).2.1;have e:ad.block=E.bw:=e;omega
 ·exact Nat.le_trans u (Nat.le_trans hf.size a.size)
 ·refine(hf.mono (T:=fun k=>¬E.Free g k) ?_).trans a (fun k _ e hF=>hF.1 e);rintro k _ ⟨ad,e,rfl⟩ hF;apply hF.2.1;rw [←h4,e];rfl
 ·intro k B hF;refine⟨hF.1,fun e=>?_,hF.2.2⟩;rcases hat with f|⟨j,f,I⟩
  ·have e:A4.map (·.block)=some k:=e;rw [f,h4] at e;exact hF.2.1 e
  ·have e:A4.map (·.block)=some k:=e;rw [f] at e;injection e with e
   omega
theorem gJ(E:Ie)(g:E9)(s:Bj)(s':Bj)(r0:Bool)(p q t v a:Int)(w:World)(h:D4 E g s w)(hs:s.had.length≤1073741824)(hr0:decide ((a,t,v)∈s.had)=r0)(hs':(if(a,t,v)∈s.had then s else s.see (a,t,v))=s'):
  Calls Ad 164 #[Aca E.bw,.agg (Ab9 p q t v),Aa Ab a] w fun e w'=>e= .returned (.bool r0)∧Mr E g s' w w':=by
 have HY:=Hd (Bb.new w 70 (Ab9 p q t v));have n:=Hd ((h.alloc (.cells (Ab9 p q t v) 70)).alloc (.cells (Ab9 a 0 t v) 70));have d:=Hd (show Gy E g ((w.alloc (.cells (Ab9 p q t v) 70)).alloc (.cells (Ab9 a 0 t v) 70)) (w.heap.size+1) 70 (Ab9 a 0 t v) from by
  have:=(h.alloc (.cells (Ab9 p q t v) 70)).lone 70 (Ab9 a 0 t v);simpa using this)
 have O:=Hd (((D9.refl E g w).alloc (.cells (Ab9 p q t v) 70)).alloc (.cells (Ab9 a 0 t v) 70));have y2:(w.alloc (.cells (Ab9 p q t v) 70)).cell? ⟨w.heap.size,2,none⟩=some (Aa Ab t):=HY.o.cell 2;have y3:(w.alloc (.cells (Ab9 p q t v) 70)).cell? ⟨w.heap.size,3,none⟩=some (Aa Ab v):=HY.o.cell 3;obtain⟨L,hL⟩:∃L,s.had=L:=⟨_,rfl⟩;obtain⟨W,nh,Y,Al,nl,cl,h1,h2,h3,h4,h5⟩:=n.o.R;rw [hL] at h2 hs;have c:=Hd h1;have G:=Hd h2;have X:=Hd h3;have HG:=Hd (And.intro h4 h5);have S:L.length=nh:=h2.1;have l:=Hd hL;have M:=Hd hr0;have N:=Hd hs';have J:=Hd S;have bk:nh≤1073741824:=by omega
 clear h h1 h2 h3 h4 h5 hL S hr0 hs';go_enter func164,ntmps164;go_upto_region 2 with fail
 generalize (w.alloc (.cells (Ab9 p q t v) 70)).alloc (.cells (Ab9 a 0 t v) 70)=w1 at n d O c G X⊢;generalize w.heap.size+1=bx at d⊢;clear y2 y3 HY;go_wp2_with fail;go_loopw [8] (fun i wr=>∃k:Nat,k≤nh∧i= Aa Ab k∧Below w1.heap.size w1 wr∧∀j y,j<k→L[j]?=some y→y≠(a,t,v)) (fun i _=>nh-(intOf i).toNat)
 case atStart=>exact⟨0,by omega,rfl,Af _ _,fun j y hj=>absurd hj (Nat.not_lt_zero _)⟩
 case round=>
  obtain⟨k,hk,rfl,B,A⟩:=hrel;replace n:=Hd (n.o.pure B);replace d:=Hd (d.o.pure B);replace O:=Hd (O.o.below B);replace c:=Hd (c.o.pure B);replace G:=Hd (G.o.pure B);replace X:=Hd (X.o.pure B);have HB:=Hd B;have f:=Hd A;clear B A;by_cases I:k<nh
  ·obtain⟨b2,o2,e2,h2⟩:=zL G.o.is I;subst e2;obtain⟨⟨x,y,z⟩,hx⟩:∃x,L[k]?=some x:=⟨_,Ai (by rw [J.o];exact I)⟩;obtain⟨a0,a1,a2,a3⟩:=h2 x y z hx;obtain⟨r,hr⟩:∃q,decide ((x,y,z)=(a,t,v))=q:=⟨_,rfl⟩;have be:=rP a t v x y z r hr;have HQ:=Hd hr;have P:=Hd hx;have bg:(0:Int)≤k:=by omega
   have bh:(k:Int)<nh:=by omega
   have bl:IntKind.i64.wrap ((k:Int)+1)=(k:Int)+1:=Ag _ (by omega);have c2:_=some (Value.slice (some ⟨b2,o2,none⟩) nh Y):=c.o.cell 2;have x0:_=some (Aa Ab a):=d.o.1.cell 0;have x1:_=some (Aa Ab 0):=d.o.1.cell 1;have x2:_=some (Aa Ab t):=d.o.1.cell 2;have x3:_=some (Aa Ab v):=d.o.1.cell 3;clear h2 hx hr;obtain⟨wz,rfl⟩:∃wo:World,wo=wr:=⟨_,rfl⟩;go_wp2_with fail;go_quiet (fail);cases r with
   |true=>
    have C:(a,t,v)∈s.had:=by
     rw [l.o,←of_decide_eq_true HQ.o];exact List.mem_of_getElem? P.o
    have HM:=Hd C;have HD:=Hd (below_drewN (Af wz.heap.size wz) nq);clear C;go_wp2_with fail;go_ret;obtain rfl:r0=true:=by rw [←M.o];exact decide_eq_true HM.o
    rw [←N.o,if_pos HM.o];exact⟨rfl,g,n.o.pure HD.o,O.o.below HD.o⟩
   |false=>
    clear c2 x0 x1 x2 x3 a0 a1 a2 a3;go_wp2_with fail;go_roundw
    case rel=>
     refine⟨k+1,by omega,by go_num,below_drewN HB.o _,fun j y' hj hy=>?_⟩;by_cases e:j=k
     ·subst e;rw [P.o] at hy;injection hy with hy
      subst hy;exact of_decide_eq_false HQ.o
     ·exact f.o j y' (by omega) hy
    case measure=>simp [intOf];omega
  ·have bi:k=nh:=by omega
   have T:(a,t,v)∉s.had:=by
    rw [l.o];intro hm;obtain⟨j,hj,e⟩:=List.mem_iff_getElem.1 hm;have:=J.o;exact f.o j _ (by omega) (by rw [Ai hj,e]) rfl
   have bf:decide (k<nh)=false:=decide_eq_false (by omega);have K:=Hd T;clear T I HB f;have c2:_=some (Value.slice W nh Y):=c.o.cell 2;have x0:_=some (Aa Ab a):=d.o.1.cell 0;have x1:_=some (Aa Ab 0):=d.o.1.cell 1;have x2:_=some (Aa Ab t):=d.o.1.cell 2;have x3:_=some (Aa Ab v):=d.o.1.cell 3;obtain⟨V,rfl⟩:∃wo:World,wo=wr:=⟨_,rfl⟩;go_wp2_with fail;have F:=Hd (Fb V);have af:=Hd ((G.o.pure F.o).pure ((Af _ _).alloc (Ae _) (.cells (Ab9 a 0 t v) 70)));have ab:=Hd (show xZ (V.drew.alloc (.cells (Ab9 a 0 t v) 70)) (some ⟨V.drew.heap.size,0,none⟩) 1 [(a,t,v)] from⟨rfl,fun j u hu=>⟨_,_,rfl,by
    rw [Nat.zero_add,(Bb.new V.drew _ _).cell j];simpa [hcl] using hu⟩⟩)
   have b:=Hd (F.o.alloc F.o.size (.cells (Ab9 a 0 t v) 70));have k2:=fun o=>Dj o c2
   have U:¬ ∃ad,W=some ad∧E.bw=ad.block:=by
    rintro⟨ad,e,e2⟩;have:=(G.o.addr ad e).2.1;have:=n.o.ok.w2;omega
   have ae:=Hd U;clear U;go_region_law (first
    |(refine pT rfl (.tmp 37) (.tmp 39) rfl E.B2 W nh Y L rfl af.o (some ⟨V.heap.size,0,none⟩) 1 1 [(a,t,v)] rfl ab.o (by omega) (Nat.le_trans n.o.sz b.o.size) ?_;intro A3 bd w3 D H Q;have ag:=Hd D;have aa:=Hd H;have Z:=Hd Q;have m:=Hd ((c.o.pure b.o).fr H ae.o);have ar:_=some (Value.slice W nh Y):=m.o.cell 2;have av:=m.o.frozen 2;clear D H Q))
   all_goals
    go_wp2_with fail;go_ret;obtain rfl:r0=false:=by rw [←M.o];exact decide_eq_false K.o
    rw [←N.o,if_neg K.o];refine⟨rfl,pI (n.o.pure b.o) (O.o.below b.o) (c.o.pure b.o) (l.o▸G.o.pure b.o) (X.o.pure b.o) HG.o.1 HG.o.2 aa.o ?_ (l.o▸ag.o)⟩;rcases Z.o with h|h
    ·exact .inl h
    ·exact .inr ⟨_,h,Ae _⟩
theorem pH(A:Option Addr)(n c:Nat)(p q t v a m er:Int)(l:List UInt8)(w:World)(h:B4 w A n l)(hn:n≤1099511627776)(h0:C6 l p q t v [4,5,25]=a)(h1:((Eo l p q t v [4,5,25]).length:Int)=m)(h2:C4 l p q t v [4,5,25]=er):
  Calls Ad 180 #[.slice A n c,.agg (Ab9 p q t v)] w (Ab5 (.tuple #[Aa Ab a,Aa Ab m,Aa Ab er]) w):=by
 subst h0 h1 h2;exact eR A n c p q t v l w h hn
theorem Oi(E:Ie)(g:E9)(s:Bj)(p q t v a:Int)(w:World)(h:D4 E g s w)(hs:s.o.length≤1000000000)(ha:By E.l p q t v=a):
  Calls Ad 165 #[Aca E.bw,.agg (Ab9 p q t v),Aa Ab a] w (iE E g w (Cn E.l ⟨p,q,t,v⟩ s)):=by
 have k:=Hd (h.alloc (.cells (Ab9 p q t v) 70));have d:=Hd (h.lone 70 (Ab9 p q t v));have r:=Hd ((D9.refl E g w).alloc (.cells (Ab9 p q t v) 70));obtain⟨i,J⟩:∃a,C6 E.l p q t v [4,5,25]=a:=⟨_,rfl⟩;obtain⟨m,V⟩:∃m:Int,((Eo E.l p q t v [4,5,25]).length:Int)=m:=⟨_,rfl⟩;obtain⟨L,H⟩:∃a,C4 E.l p q t v [4,5,25]=a:=⟨_,rfl⟩;have P:=Hd ha;have u:=Hd J;have F:=Hd V;have D:=Hd H;have ab:=h.ok.hn;have K:=h.len;clear h ha J V H;have x:=(k.o).c0;have y:=Bg d.o.1;have z:=Bf d.o.1;have B:=Be d.o.1;have C:=Bh d.o.1;go_enter func165,ntmps165;go_wp2_with fail;go_region_held3 (fun w'=>w'.cell? ⟨E.bw,0,none⟩=some (.slice E.A E.n E.c)∧(w'.cell? ⟨w.heap.size,0,none⟩=some (Aa Ab p)∧w'.cell? ⟨w.heap.size,1,none⟩=some (Aa Ab q)∧w'.cell? ⟨w.heap.size,2,none⟩=some (Aa Ab t)∧w'.cell? ⟨w.heap.size,3,none⟩=some (Aa Ab v))) (first|with_reducible exact⟨x,y,z,B,C⟩|with_reducible exact⟨Bk x,Bk y,Bk z,Bk B,Bk C⟩) (first|(go_at_call 180;(with_reducible refine(pH E.A E.n E.c p q t v i m L E.l _ k.o.drew.b (by omega) u.o F.o D.o).mono ?_);rintro e w1 ⟨rfl,G⟩;replace r:=Hd (r.o.drew.below G);replace k:=Hd (k.o.drew.pure G);replace d:=Hd (d.o.drew.pure G);clear x y z B C;clear G;have x:=(k.o).c0;have y:=Bg d.o.1;have z:=Bf d.o.1;have B:=Be d.o.1;have C:=Bh d.o.1));by_cases H:L=0
 ·subst H;obtain⟨X,S,T,Q,b4,U⟩:=Y0 D.o;rw [u.o,P.o] at U;subst U;rw [u.o,F.o] at S T;rw [u.o] at X Q;have Y:0≤m:=by have:=F.o;omega
  have Z:i+m≤4294967296:=by omega
  have ae:IntKind.i64.wrap (i+m)=i+m:=Ag _ (by omega);have af:IntKind.i64.wrap (i+m+1)=i+m+1:=Ag _ (by omega);have I:=Hd Q;clear S T K Q;by_cases N:t=4
  ·subst N;go_wp2_with (go_at_call 88;(with_reducible refine(D1 E _ _ i (i+m+1) 9 _ k.o (by omega) (by omega)).mono ?_);rintro e O ⟨rfl,M,j,f⟩;replace r:=Hd (r.o.trans f);replace d:=Hd (d.o.to f);replace k:=Hd j;clear x y z B C;clear j f;have x:=(k.o).c0;have y:=Bg d.o.1;have z:=Bf d.o.1;have B:=Be d.o.1;have C:=Bh d.o.1);go_ret;have e:Cn E.l ⟨p,q,4,v⟩ s=(s.tell i (i+m+1) 9,0):=by
    unfold Cn;rw [D.o,u.o,F.o];rfl
   rw [e];exact⟨rfl,_,k.o,r.o⟩
  ·have e4:(t==4)=false:=beq_eq_false_iff_ne.mpr N;have s1:=Nl s (i-v) i 6;have ad:=I.o N;have hw:IntKind.i64.wrap (i-v)=i-v:=Ag _ (by omega);clear I;by_cases R:t=5
   ·subst R;go_wp2_with (go_at_call 88;(with_reducible refine(D1 E _ _ (i-v) i 6 _ k.o (by omega) (by omega)).mono ?_);rintro e O ⟨rfl,M,j,f⟩;replace r:=Hd (r.o.trans f);replace d:=Hd (d.o.to f);replace k:=Hd j;clear x y z B C;clear j f;have x:=(k.o).c0;have y:=Bg d.o.1;have z:=Bf d.o.1;have B:=Be d.o.1;have C:=Bh d.o.1);go_wp2_with (go_at_call 88;(with_reducible refine(D1 E _ _ i (i+m+1) 10 _ k.o (by omega) (by omega)).mono ?_);rintro e O ⟨rfl,M,j,f⟩;replace r:=Hd (r.o.trans f);replace d:=Hd (d.o.to f);replace k:=Hd j;clear x y z B C;clear j f;have x:=(k.o).c0;have y:=Bg d.o.1;have z:=Bf d.o.1;have B:=Be d.o.1;have C:=Bh d.o.1);go_ret;have e:Cn E.l ⟨p,q,5,v⟩ s=((s.tell (i-v) i 6).tell i (i+m+1) 10,0):=by
     unfold Cn;rw [D.o,u.o,F.o];rfl
    rw [e];exact⟨rfl,_,k.o,r.o⟩
   ·have e5:(t==5)=false:=beq_eq_false_iff_ne.mpr R;go_wp2_with (go_at_call 88;(with_reducible refine(D1 E _ _ (i-v) i 6 _ k.o (by omega) (by omega)).mono ?_);rintro e O ⟨rfl,M,j,f⟩;replace r:=Hd (r.o.trans f);replace d:=Hd (d.o.to f);replace k:=Hd j;clear x y z B C;clear j f;have x:=(k.o).c0;have y:=Bg d.o.1;have z:=Bf d.o.1;have B:=Be d.o.1;have C:=Bh d.o.1);go_wp2_with (go_at_call 88;(with_reducible refine(D1 E _ _ i (i+m) 11 _ k.o (by omega) (by omega)).mono ?_);rintro e O ⟨rfl,M,j,f⟩;replace r:=Hd (r.o.trans f);replace d:=Hd (d.o.to f);replace k:=Hd j;clear x y z B C;clear j f;have x:=(k.o).c0;have y:=Bg d.o.1;have z:=Bf d.o.1;have B:=Be d.o.1;have C:=Bh d.o.1);go_ret;have e:Cn E.l ⟨p,q,t,v⟩ s=((s.tell (i-v) i 6).tell i (i+m) 11,0):=by
     unfold Cn;rw [D.o,u.o,F.o];simp [N,R]
    rw [e];exact⟨rfl,_,k.o,r.o⟩
 ·have aa:(L != 0)=true:=by simpa using H
  have e:Cn E.l ⟨p,q,t,v⟩ s=(s,L):=by
   unfold Cn;rw [D.o,if_pos H]
  have W:=Hd e;clear e H;go_wp2_with fail;go_ret;rw [W.o];exact⟨rfl,_,k.o,r.o⟩
end Go.Proofs.YtejpbijeifjdeaaGreat
