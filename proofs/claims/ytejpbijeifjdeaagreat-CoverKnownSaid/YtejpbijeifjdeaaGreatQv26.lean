/- Parts of the proof. -/
import Derived.Test.YtejpbijeifjdeaaGreatQv22
import Derived.Test.YtejpbijeifjdeaaGreatQv25
import Derived.Deep.CutBlock
set_option maxHeartbeats 4000000
set_option maxRecDepth 100000
open Go.Value renaming int→Aa
open Go.IntKind renaming i64→Ab,u64→Ac
open Go.RowKit.Below renaming refl→Af
open Go.IntWalk renaming i64_in→Ag
open List renaming getElem?_eq_getElem→Ai
open Go.Instr renaming mapUpdate→As
open Go.Proofs.Tryz
open Go.Proofs.Tryz renaming prog→Ad
namespace Go.Proofs.YtejpbijeifjdeaaGreat
variable {t:Int}
section
open Go.RowKit Go.Acc
def yU:Array MapEntry:=#[⟨Aa Ab 10,Aa Ab 10,0⟩]
def yV:Array MapEntry:=#[⟨Aa Ab 10,Aa Ab 10,0⟩,⟨Aa Ab 11,Aa Ab 11,1⟩]
def yW:Array MapEntry:=#[⟨Aa Ab 10,Aa Ab 10,0⟩,⟨Aa Ab 11,Aa Ab 11,1⟩,⟨Aa Ab 12,Aa Ab 12,2⟩]
def yX:Array MapEntry:=#[⟨Aa Ab 10,Aa Ab 10,0⟩,⟨Aa Ab 11,Aa Ab 11,1⟩,⟨Aa Ab 12,Aa Ab 12,2⟩,⟨Aa Ab 14,Aa Ab 13,3⟩]
def yY:Array MapEntry:=#[⟨Aa Ab 10,Aa Ab 10,0⟩,⟨Aa Ab 11,Aa Ab 11,1⟩,⟨Aa Ab 12,Aa Ab 12,2⟩,⟨Aa Ab 14,Aa Ab 13,3⟩,⟨Aa Ab 36,Aa Ab 14,4⟩]
def fQ:Array MapEntry:=#[⟨Aa Ab 10,Aa Ab 10,0⟩,⟨Aa Ab 11,Aa Ab 11,1⟩,⟨Aa Ab 12,Aa Ab 12,2⟩,⟨Aa Ab 14,Aa Ab 13,3⟩,⟨Aa Ab 36,Aa Ab 14,4⟩,⟨Aa Ab 9,Aa Ab 17,5⟩]
theorem Yd(h:Iq t=true):t=9∨t=10∨t=11∨t=12∨t=14∨t=36∨(t=16∨t=19∨t=22)∨t=17∨t=20∨t=23:=by
 cases e:Ig t with
 |false=>
  have h9:¬(t=9∨t=10):=by
   rintro(rfl|rfl) <;>cases e
  simp [Iq,Ib,Lc e,h9] at h
 |true=>exact Lb (p:=fun t=>Iq t=true→t=9∨t=10∨t=11∨t=12∨t=14∨t=36∨(t=16∨t=19∨t=22)∨t=17∨t=20∨t=23) (by decide) e h
theorem vL(h:Iq t=true):∃(k:Int) (b:Bool),((b=true∧De t=k∧Cr t=0)∨(b=false∧((Fh t=1∧De t=15)∨(Fh t≠1∧De t=16))))∧∀(W:World) (g:Nat),W.heap[g]?=some (.map fQ 6)→
  (Instr.lookup 184 (.map (some g)) (Aa Ab t) true).run Ad W= .ok (.tuple #[Aa Ab k,.bool b]) W:=by
 have c:∀W:World,(zeroValue 3).run Ad W= .ok (Aa Ab 0) W:=by intro W;go_simp
 have a:∀(t:Int) (r:Option (Nat×Value)) (W:World) (g:Nat),Instr.findNow (.int .i64) (Aa Ab t) fQ.toList 0=some r→W.heap[g]?=some (.map fQ 6)→(Instr.lookup 184 (.map (some g)) (Aa Ab t) true).run Ad W= .ok (.tuple #[(r.map (·.2)).getD (Aa Ab 0),.bool r.isSome]) W:=by
  intro t r W g h hb;exact Nk underlying184 underlying3 (Aa Ab 0) c W fQ 6 g t true r hb h
 rcases Yd h with rfl|rfl|rfl|rfl|rfl|rfl|(rfl|rfl|rfl)|rfl|rfl|rfl
 ·exact⟨17,true,.inl ⟨rfl,by decide,by decide⟩,fun W g hb=>a _ (some (5,Aa Ab 17)) W g rfl hb⟩
 ·exact⟨10,true,.inl ⟨rfl,by decide,by decide⟩,fun W g hb=>a _ (some (0,Aa Ab 10)) W g rfl hb⟩
 ·exact⟨11,true,.inl ⟨rfl,by decide,by decide⟩,fun W g hb=>a _ (some (1,Aa Ab 11)) W g rfl hb⟩
 ·exact⟨12,true,.inl ⟨rfl,by decide,by decide⟩,fun W g hb=>a _ (some (2,Aa Ab 12)) W g rfl hb⟩
 ·exact⟨13,true,.inl ⟨rfl,by decide,by decide⟩,fun W g hb=>a _ (some (3,Aa Ab 13)) W g rfl hb⟩
 ·exact⟨14,true,.inl ⟨rfl,by decide,by decide⟩,fun W g hb=>a _ (some (4,Aa Ab 14)) W g rfl hb⟩
 all_goals exact⟨0,false,.inr ⟨rfl,by decide⟩,fun W g hb=>a _ none W g rfl hb⟩
theorem P5(w:World):Calls Ad 321 #[] w fun e w'=>∃g,e= .returned (.map (some g))∧w'.heap[g]?=some (.map fQ 6)∧Below w.heap.size w w':=by
 have h0:=run_makeMap (P:=Ad) 184;have h1:∀(W:World) (es:Array MapEntry) (c:Nat) (x:Int) (v:Value),Instr.findNow (.int .i64) (.int .i64 x) es.toList 0=some none→(As 184 (.map (some W.heap.size)) (.int .i64 x) v).run Ad (W.alloc (.map es c))= .ok () (W.alloc (.map (es.push { key:= .int .i64 x,val:=v,born:=c}) (c+1))):=
  fun W es c x v h=>O2 underlying184 underlying3 W es c _ x v rfl h
 have a:∀W:World,(As 184 (.map (some W.heap.size)) (.int .i64 10) (.int .i64 10)).run Ad (W.alloc (.map #[] 0))= .ok () (W.alloc (.map yU 1)):=fun W=>h1 W #[] 0 10 _ rfl
 have b:∀W:World,(As 184 (.map (some W.heap.size)) (.int .i64 11) (.int .i64 11)).run Ad (W.alloc (.map yU 1))= .ok () (W.alloc (.map yV 2)):=fun W=>h1 W yU 1 11 _ rfl
 have d:∀W:World,(As 184 (.map (some W.heap.size)) (.int .i64 12) (.int .i64 12)).run Ad (W.alloc (.map yV 2))= .ok () (W.alloc (.map yW 3)):=fun W=>h1 W yV 2 12 _ rfl
 have f:∀W:World,(As 184 (.map (some W.heap.size)) (.int .i64 14) (.int .i64 13)).run Ad (W.alloc (.map yW 3))= .ok () (W.alloc (.map yX 4)):=fun W=>h1 W yW 3 14 _ rfl
 have i:∀W:World,(As 184 (.map (some W.heap.size)) (.int .i64 36) (.int .i64 14)).run Ad (W.alloc (.map yX 4))= .ok () (W.alloc (.map yY 5)):=fun W=>h1 W yX 4 36 _ rfl
 have j:∀W:World,(As 184 (.map (some W.heap.size)) (.int .i64 9) (.int .i64 17)).run Ad (W.alloc (.map yY 5))= .ok () (W.alloc (.map fQ 6)):=fun W=>h1 W yY 5 9 _ rfl
 clear h1;go_enter func321,ntmps321;go_wp2;go_ret;exact⟨_,rfl,heap_alloc_new w _,(Af _ _).alloc (Nat.le_refl _) _⟩
theorem kQ(t:Int)(w:World)(h:Iq t=true):Calls Ad 269 #[Aa Ab t] w (Ab5 (.tuple #[Aa Ab (De t),Aa Ab (Cr t)]) w):=by
 obtain⟨A,j⟩:∃k,De t=k:=⟨_,rfl⟩;obtain⟨m,s⟩:∃k,Cr t=k:=⟨_,rfl⟩;obtain⟨x,i⟩:∃k,Fh t=k:=⟨_,rfl⟩;obtain⟨k,b,r,v⟩:=vL h;have l:=Hd (fun W=>J6 t W);rw [s,i] at l;rw [j,s,i] at r;rw [j,s];have n:=Hd v;clear h v j s i;rcases r with⟨rfl,rfl,rfl⟩|⟨rfl,r⟩
 ·go_enter func269,ntmps269;go_wp2_with fail;go_at_call 321;refine(P5 _).mono ?_;rintro e q ⟨g,rfl,c,a⟩;have p:=n.o q g c;have d:=Hd a;clear a c l n;go_wp2_with fail;go_ret2;exact⟨rfl,d.o⟩
 ·rcases r with⟨rfl,rfl⟩|⟨u,rfl⟩
  ·go_enter func269,ntmps269;go_wp2_with fail;go_at_call 321;refine(P5 _).mono ?_;rintro e q ⟨g,rfl,c,a⟩;have p:=n.o q g c;have d:=Hd a;clear a c n;go_wp2_with fail;go_at_call 272;refine(l.o _).mono ?_;rintro e z ⟨rfl,a⟩;have f:=Hd (A6 d.o a);clear a d l;go_wp2_with fail;go_ret2;exact⟨rfl,f.o⟩
  ·have y:(x==1)=false:=beq_eq_false_iff_ne.mpr u;clear u;go_enter func269,ntmps269;go_wp2_with fail;go_at_call 321;refine(P5 _).mono ?_;rintro e q ⟨g,rfl,c,a⟩;have p:=n.o q g c;have d:=Hd a;clear a c n;go_wp2_with fail;go_at_call 272;refine(l.o _).mono ?_;rintro e z ⟨rfl,a⟩;have f:=Hd (A6 d.o a);clear a d l;go_wp2_with fail;go_ret2;exact⟨rfl,f.o⟩
def yL:Array MapEntry:=#[⟨Aa Ab 0,.func (.func 262) #[] #[],0⟩]
def yM:Array MapEntry:=#[⟨Aa Ab 0,.func (.func 262) #[] #[],0⟩,⟨Aa Ab 1,.func (.func 263) #[] #[],1⟩]
def yN:Array MapEntry:=#[⟨Aa Ab 0,.func (.func 262) #[] #[],0⟩,⟨Aa Ab 1,.func (.func 263) #[] #[],1⟩,⟨Aa Ab 2,.func (.func 264) #[] #[],2⟩]
def yO:Array MapEntry:=#[⟨Aa Ab 0,.func (.func 262) #[] #[],0⟩,⟨Aa Ab 1,.func (.func 263) #[] #[],1⟩,⟨Aa Ab 2,.func (.func 264) #[] #[],2⟩,⟨Aa Ab 26,.func (.func 265) #[] #[],3⟩]
def yP:Array MapEntry:=#[⟨Aa Ab 0,.func (.func 262) #[] #[],0⟩,⟨Aa Ab 1,.func (.func 263) #[] #[],1⟩,⟨Aa Ab 2,.func (.func 264) #[] #[],2⟩,⟨Aa Ab 26,.func (.func 265) #[] #[],3⟩,⟨Aa Ab 4,.func (.func 266) #[] #[],4⟩]
def yQ:Array MapEntry:=#[⟨Aa Ab 0,.func (.func 262) #[] #[],0⟩,⟨Aa Ab 1,.func (.func 263) #[] #[],1⟩,⟨Aa Ab 2,.func (.func 264) #[] #[],2⟩,⟨Aa Ab 26,.func (.func 265) #[] #[],3⟩,⟨Aa Ab 4,.func (.func 266) #[] #[],4⟩,⟨Aa Ab 5,.func (.func 267) #[] #[],5⟩]
def yR:Array MapEntry:=#[⟨Aa Ab 0,.func (.func 262) #[] #[],0⟩,⟨Aa Ab 1,.func (.func 263) #[] #[],1⟩,⟨Aa Ab 2,.func (.func 264) #[] #[],2⟩,⟨Aa Ab 26,.func (.func 265) #[] #[],3⟩,⟨Aa Ab 4,.func (.func 266) #[] #[],4⟩,⟨Aa Ab 5,.func (.func 267) #[] #[],5⟩,⟨Aa Ab 25,.func (.func 267) #[] #[],6⟩]
def yS:Array MapEntry:=#[⟨Aa Ab 0,.func (.func 262) #[] #[],0⟩,⟨Aa Ab 1,.func (.func 263) #[] #[],1⟩,⟨Aa Ab 2,.func (.func 264) #[] #[],2⟩,⟨Aa Ab 26,.func (.func 265) #[] #[],3⟩,⟨Aa Ab 4,.func (.func 266) #[] #[],4⟩,⟨Aa Ab 5,.func (.func 267) #[] #[],5⟩,⟨Aa Ab 25,.func (.func 267) #[] #[],6⟩,⟨Aa Ab 6,.func (.func 268) #[] #[],7⟩]
def fP:Array MapEntry:=#[⟨Aa Ab 0,.func (.func 262) #[] #[],0⟩,⟨Aa Ab 1,.func (.func 263) #[] #[],1⟩,⟨Aa Ab 2,.func (.func 264) #[] #[],2⟩,⟨Aa Ab 26,.func (.func 265) #[] #[],3⟩,⟨Aa Ab 4,.func (.func 266) #[] #[],4⟩,⟨Aa Ab 5,.func (.func 267) #[] #[],5⟩,⟨Aa Ab 25,.func (.func 267) #[] #[],6⟩,⟨Aa Ab 6,.func (.func 268) #[] #[],7⟩,⟨Aa Ab 7,.func (.func 268) #[] #[],8⟩]
def yT(t:Int):Option Nat:=if t=0 then some 262 else if t=1 then some 263 else if t=2 then some 264 else if t=26 then some 265 else if t=4 then some 266 else if t=5∨t=25 then some 267 else if t=6∨t=7 then some 268 else none
def Rf(t:Int):Value:=match yT t with|some f=> .func (.func f) #[] #[]|none=> .nilFunc
theorem rL(W:World):(zeroValue 197).run Ad W= .ok .nilFunc W:=by
 revert W;intro W
 kernel_rfl
theorem Wo(t:Int)(W:World)(g:Nat)(hb:W.heap[g]?=some (.map fP 9)):
  (Instr.lookup 198 (.map (some g)) (Aa Ab t) false).run Ad W= .ok (Rf t) W:=by
 have a:∀(t:Int) (r:Option (Nat×Value)),Instr.findNow (.int .i64) (Aa Ab t) fP.toList 0=some r→(r.map (·.2)).getD .nilFunc=Rf t→(Instr.lookup 198 (.map (some g)) (Aa Ab t) false).run Ad W= .ok (Rf t) W:=by
  intro t r h s;rw [Nk underlying198 underlying3 .nilFunc rL W fP 9 g t false r hb h,←s];rfl
 by_cases h0:t=0
 ·subst h0;exact a _ _ rfl rfl
 by_cases h1:t=1
 ·subst h1;exact a _ _ rfl rfl
 by_cases h2:t=2
 ·subst h2;exact a _ _ rfl rfl
 by_cases h3:t=26
 ·subst h3;exact a _ _ rfl rfl
 by_cases b:t=4
 ·subst b;exact a _ _ rfl rfl
 by_cases c:t=5
 ·subst c;exact a _ _ rfl rfl
 by_cases d:t=25
 ·subst d;exact a _ _ rfl rfl
 by_cases e:t=6
 ·subst e;exact a _ _ rfl rfl
 by_cases f:t=7
 ·subst f;exact a _ _ rfl rfl
 refine a t none ?_ ?_
 ·have i:(t==0)=false:=by simpa using h0
  have j:(t==1)=false:=by simpa using h1
  have k:(t==2)=false:=by simpa using h2
  have l:(t==26)=false:=by simpa using h3
  have m:(t==4)=false:=by simpa using b
  have n:(t==5)=false:=by simpa using c
  have o:(t==25)=false:=by simpa using d
  have p:(t==6)=false:=by simpa using e
  have q:(t==7)=false:=by simpa using f
  simp only [fP,Instr.findNow,Instr.sameNow,if_true,i,j,k,l,m,n,o,p,q]
 ·simp [Rf,yT,h0,h1,h2,h3,b,c,d,e,f]
theorem P8(w:World):Calls Ad 158 #[] w fun e w'=>∃g,e= .returned (.map (some g))∧w'.heap[g]?=some (.map fP 9)∧Below w.heap.size w w':=by
 have h0:=run_makeMap (P:=Ad) 198;have h1:∀(W:World) (es:Array MapEntry) (c:Nat) (x:Int) (v:Value),Instr.findNow (.int .i64) (.int .i64 x) es.toList 0=some none→(As 198 (.map (some W.heap.size)) (.int .i64 x) v).run Ad (W.alloc (.map es c))= .ok () (W.alloc (.map (es.push { key:= .int .i64 x,val:=v,born:=c}) (c+1))):=
  fun W es c x v h=>O2 underlying198 underlying3 W es c _ x v rfl h
 have a:∀W:World,(As 198 (.map (some W.heap.size)) (.int .i64 0) (.func (.func 262) #[] #[])).run Ad (W.alloc (.map #[] 0))= .ok () (W.alloc (.map yL 1)):=fun W=>h1 W #[] 0 0 _ rfl
 have b:∀W:World,(As 198 (.map (some W.heap.size)) (.int .i64 1) (.func (.func 263) #[] #[])).run Ad (W.alloc (.map yL 1))= .ok () (W.alloc (.map yM 2)):=fun W=>h1 W yL 1 1 _ rfl
 have d:∀W:World,(As 198 (.map (some W.heap.size)) (.int .i64 2) (.func (.func 264) #[] #[])).run Ad (W.alloc (.map yM 2))= .ok () (W.alloc (.map yN 3)):=fun W=>h1 W yM 2 2 _ rfl
 have f:∀W:World,(As 198 (.map (some W.heap.size)) (.int .i64 26) (.func (.func 265) #[] #[])).run Ad (W.alloc (.map yN 3))= .ok () (W.alloc (.map yO 4)):=fun W=>h1 W yN 3 26 _ rfl
 have i:∀W:World,(As 198 (.map (some W.heap.size)) (.int .i64 4) (.func (.func 266) #[] #[])).run Ad (W.alloc (.map yO 4))= .ok () (W.alloc (.map yP 5)):=fun W=>h1 W yO 4 4 _ rfl
 have j:∀W:World,(As 198 (.map (some W.heap.size)) (.int .i64 5) (.func (.func 267) #[] #[])).run Ad (W.alloc (.map yP 5))= .ok () (W.alloc (.map yQ 6)):=fun W=>h1 W yP 5 5 _ rfl
 have k:∀W:World,(As 198 (.map (some W.heap.size)) (.int .i64 25) (.func (.func 267) #[] #[])).run Ad (W.alloc (.map yQ 6))= .ok () (W.alloc (.map yR 7)):=fun W=>h1 W yQ 6 25 _ rfl
 have l:∀W:World,(As 198 (.map (some W.heap.size)) (.int .i64 6) (.func (.func 268) #[] #[])).run Ad (W.alloc (.map yR 7))= .ok () (W.alloc (.map yS 8)):=fun W=>h1 W yR 7 6 _ rfl
 have m:∀W:World,(As 198 (.map (some W.heap.size)) (.int .i64 7) (.func (.func 268) #[] #[])).run Ad (W.alloc (.map yS 8))= .ok () (W.alloc (.map fP 9)):=fun W=>h1 W yS 8 7 _ rfl
 clear h1;go_enter func158,ntmps158;go_wp2;go_ret;exact⟨_,rfl,heap_alloc_new w _,(Af _ _).alloc (Nat.le_refl _) _⟩
theorem mL(f:Nat)(W:World):(binOp .eql 197 (.func (.func f) #[] #[]) .nilFunc).run Ad W= .ok (.bool false) W:=by
 revert f W;intro f W
 kernel_rfl
theorem vK(W:World):(binOp .eql 197 .nilFunc .nilFunc).run Ad W= .ok (.bool true) W:=by
 revert W;intro W
 kernel_rfl
theorem xE(A:Option Addr)(n c:Nat)(p q t v lim:Int)(f:Nat)(xk xn:Int)(xu:Nat)(xs:List UInt8)(XA:Option Addr)(xan xac:Nat)(XB:Option Addr)(xbn xbc:Nat)(w:World)(hq:Br q=true)(hv:Br v=true)(ht:Ch t=true)(hi:Bt t=true)(hf:Rf t= .func (.func f) #[] #[])
  (hcf:∀(xs:Array Value) (W:World),(callFunc f xs).run Ad W= .ok (.enter f xs) W)
  (hcall:∀W,Below w.heap.size w W→Calls Ad f #[.slice A n c,.agg (Ab9 p q t v),Aa Ab 0,.agg (Ab8 xk xn xu xs XA xan xac XB xbn xbc)] W (Ab5 (.bool true) W)):
  Calls Ad 87 #[.slice A n c,.agg (Ab9 p q t v),Aa Ab lim,.agg (Ab8 xk xn xu xs XA xan xac XB xbn xbc)] w (Ab5 (.bool true) w):=by
 have L:=mL f;have B:=Hd hcall;have I:=Hd hf;have H:=Hd ht;have F:=Hd hi;have h:=Hd (Bq w (.cells (Ab9 p q t v) 70) (.cells (Ab8 xk xn xu xs XA xan xac XB xbn xbc) 34));have d:=Hd ((Bb.new w 70 (Ab9 p q t v)).alloc (.cells (Ab8 xk xn xu xs XA xan xac XB xbn xbc) 34));have b:=Hd (Bb.new_ (w:=w.alloc (.cells (Ab9 p q t v) 70)) (g:=w.heap.size+1) (by simp) 34 (Ab8 xk xn xu xs XA xan xac XB xbn xbc));have G:=Hd hq;have J:=Hd hv;clear hcall hf ht hi hq hv;go_enter func87,ntmps87;go_upto_region 1 with fail
 generalize (w.alloc (.cells (Ab9 p q t v) 70)).alloc (.cells (Ab8 xk xn xu xs XA xan xac XB xbn xbc) 34)=w1 at h d b⊢;generalize C:w.heap.size=bt at d b⊢;generalize bt+1=bs at b⊢;clear C;obtain ⟨u,x,i,y⟩:=d.o.c4;obtain ⟨j,k,l,m,r,s⟩:=b.o.c6;go_wp2_with fail;go_at_call 32;refine(Es q _ G.o).mono ?_;rintro e w' ⟨⟨N,rfl⟩,rfl⟩;go_wp2_with fail;go_at_call 32;refine(Es v _ J.o).mono ?_;rintro e w' ⟨⟨O,rfl⟩,rfl⟩;go_wp2_with fail;go_at_call 86;refine(Fi t _).mono ?_;rintro e M ⟨rfl,a⟩;rw [H.o];replace h:=Hd (A6 h.o a);replace d:=Hd (d.o.pure a);replace b:=Hd (b.o.pure a);clear a u x i y j k l m r s;obtain ⟨u,x,i,y⟩:=d.o.c4;obtain ⟨j,k,l,m,r,s⟩:=b.o.c6;go_upto_region 5 with fail
 go_region_held3 (fun w'=>w'.cell? ⟨bt,2,none⟩=some (Aa Ab t)) (first|with_reducible exact i|with_reducible exact Bc i) (first|(go_at_call 158;(with_reducible refine(P8 _).mono ?_);rintro e E ⟨g,rfl,K,z⟩;have D:=Wo t E g K;rw [I.o] at D;have a:=B5 (Fb M) z;replace h:=Hd (A6 h.o a);replace d:=Hd (d.o.pure a);replace b:=Hd (b.o.pure a);clear u x i y j k l m r s a z;have i:E.cell? ⟨bt,2,none⟩=some (Aa Ab t):=d.o.cell 2));obtain ⟨u,x,i,y⟩:=d.o.c4;obtain ⟨j,k,l,m,r,s⟩:=b.o.c6;go_wp2_with fail;go_at_call 78;refine(Cm t _).mono ?_;rintro e P ⟨rfl,a⟩;rw [F.o];replace h:=Hd (A6 h.o a);replace d:=Hd (d.o.pure a);replace b:=Hd (b.o.pure a);clear a u x i y j k l m r s;obtain ⟨u,x,i,y⟩:=d.o.c4;obtain ⟨j,k,l,m,r,s⟩:=b.o.c6;go_wp2_with fail;refine(B.o _ h.o).mono ?_;rintro e Q ⟨rfl,a⟩;replace h:=Hd (A6 h.o a);clear a;go_wp2_with fail;go_ret;exact⟨rfl,h.o⟩
theorem cS(A:Option Addr)(n c:Nat)(p q t v lim:Int)(u:Nat)(l:List UInt8)(f:Nat)(xk xn:Int)(xu:Nat)(xs:List UInt8)(XA:Option Addr)(xan xac:Nat)(XB:Option Addr)(xbn xbc:Nat)(w:World)(hq:Br q=true)(hv:Br v=true)(ht:Ch t=true)(hi:Bt t=false)(hf:Rf t= .func (.func f) #[] #[]∨(Rf t= .nilFunc∧f=159))
  (hcf:∀(xs:Array Value) (W:World),(callFunc f xs).run Ad W= .ok (.enter f xs) W)
  (hl:B4 w A n l) (hc:n≤c) (hn:n≤4294967296) (h1:Bz n p q=0) (h2:loadU l p q=u) (hu:u<4294967296) (h0:(u:Int)≤p) (hp:p≤4294967296) (hlim:p-u-F4 t*v<lim)
  (hcall:∀W,Below w.heap.size w W→Calls Ad f #[.slice A n c,.agg (Ab9 p q t v),Aa Ab (p-u),.agg (Ab8 xk xn xu xs XA xan xac XB xbn xbc)] W (Ab5 (.bool true) W)):
  Calls Ad 87 #[.slice A n c,.agg (Ab9 p q t v),Aa Ab lim,.agg (Ab8 xk xn xu xs XA xan xac XB xbn xbc)] w (Ab5 (.bool true) w):=by
 have M:=Hd (fun W (hb:Below w.heap.size w W)=>J5 A n c p q u l W (hl.pure hb) hc hn h1 h2 hu);obtain⟨E,F⟩:∃a,F4 t=a:=⟨_,rfl⟩;have H:0≤E∧E≤3:=by
  rw [←F];unfold F4;split
  ·omega
  ·split <;>omega
 have N:1≤v∧v≤8:=by have:=B6.1 hv;omega
 have V:0≤E*v∧E*v≤24:=⟨Int.mul_nonneg H.1 (by omega),by
  have:=Int.mul_le_mul H.2 N.2 (by omega) (by omega);omega⟩
 rw [F] at hlim;have L:=Hd F;have af:IntKind.i64.wrap (p-(u:Int))=p-(u:Int):=Ag _ (by omega);have ag:IntKind.i64.wrap (E*v)=E*v:=Ag _ (by omega);have ai:IntKind.i64.wrap (p-(u:Int)-E*v)=p-(u:Int)-E*v:=Ag _ (by omega);have ae:decide (p<(u:Int))=false:=decide_eq_false (by omega);have ad:decide (lim≤p-(u:Int)-E*v)=false:=decide_eq_false (by omega);clear hl h1 h2 hu h0 hp hlim F H N V;rcases hf with hf|⟨hf,rfl⟩
 ·have X:=mL f;have G:=Hd hcall;have S:=Hd hf;have R:=Hd ht;have P:=Hd hi;have h:=Hd (Bq w (.cells (Ab9 p q t v) 70) (.cells (Ab8 xk xn xu xs XA xan xac XB xbn xbc) 34));have b:=Hd ((Bb.new w 70 (Ab9 p q t v)).alloc (.cells (Ab8 xk xn xu xs XA xan xac XB xbn xbc) 34));have d:=Hd (Bb.new_ (w:=w.alloc (.cells (Ab9 p q t v) 70)) (g:=w.heap.size+1) (by simp) 34 (Ab8 xk xn xu xs XA xan xac XB xbn xbc));have Q:=Hd hq;have T:=Hd hv;clear hcall hf ht hi hq hv;go_enter func87,ntmps87;go_upto_region 1 with fail
  generalize (w.alloc (.cells (Ab9 p q t v) 70)).alloc (.cells (Ab8 xk xn xu xs XA xan xac XB xbn xbc) 34)=w1 at h b d⊢;generalize I:w.heap.size=bt at b d⊢;generalize bt+1=bs at d⊢;clear I;obtain ⟨j,B,i,k⟩:=b.o.c4;obtain ⟨m,r,s,x,y,z⟩:=d.o.c6;go_wp2_with fail;go_at_call 32;refine(Es q _ Q.o).mono ?_;rintro e w' ⟨⟨c1,rfl⟩,rfl⟩;go_wp2_with fail;go_at_call 32;refine(Es v _ T.o).mono ?_;rintro e w' ⟨⟨c2,rfl⟩,rfl⟩;go_wp2_with fail;go_at_call 86;refine(Fi t _).mono ?_;rintro e Y ⟨rfl,hb⟩;rw [R.o];replace h:=Hd (A6 h.o hb);replace b:=Hd (b.o.pure hb);replace d:=Hd (d.o.pure hb);clear hb j B i k m r s x y z;obtain ⟨j,B,i,k⟩:=b.o.c4;obtain ⟨m,r,s,x,y,z⟩:=d.o.c6;go_upto_region 5 with fail
  go_region_held3 (fun w'=>w'.cell? ⟨bt,2,none⟩=some (Aa Ab t)) (first|with_reducible exact i|with_reducible exact Bc i) (first|(go_at_call 158;(with_reducible refine(P8 _).mono ?_);rintro e O ⟨g,rfl,U,C⟩;have J:=Wo t O g U;rw [S.o] at J;have hb:=B5 (Fb Y) C;replace h:=Hd (A6 h.o hb);replace b:=Hd (b.o.pure hb);replace d:=Hd (d.o.pure hb);clear j B i k m r s x y z hb C;have i:O.cell? ⟨bt,2,none⟩=some (Aa Ab t):=b.o.cell 2));obtain ⟨j,B,i,k⟩:=b.o.c4;obtain ⟨m,r,s,x,y,z⟩:=d.o.c6;go_wp2_with fail;go_at_call 78;refine(Cm t _).mono ?_;rintro e w6 ⟨rfl,hb⟩;rw [P.o];replace h:=Hd (A6 h.o hb);replace b:=Hd (b.o.pure hb);replace d:=Hd (d.o.pure hb);clear hb j B i k m r s x y z;obtain ⟨j,B,i,k⟩:=b.o.c4;obtain ⟨m,r,s,x,y,z⟩:=d.o.c6;go_wp2_with fail;go_at_call 160;refine(M.o _ h.o).mono ?_;rintro e Z ⟨rfl,hb⟩;replace h:=Hd (A6 h.o hb);replace b:=Hd (b.o.pure hb);replace d:=Hd (d.o.pure hb);clear hb j B i k m r s x y z;obtain ⟨j,B,i,k⟩:=b.o.c4;obtain ⟨m,r,s,x,y,z⟩:=d.o.c6;go_upto_region 11 with fail
  go_region_held3 (fun w'=>w'.cell? ⟨bt,0,none⟩=some (Aa Ab p)∧w'.cell? ⟨bt,2,none⟩=some (Aa Ab t)∧w'.cell? ⟨bt,3,none⟩=some (Aa Ab v)) (first|with_reducible exact⟨j,i,k⟩|with_reducible exact⟨Bc j,Bc i,Bc k⟩) (first|(go_at_call 161;(with_reducible refine(Sv t _).mono ?_);rintro e K ⟨rfl,D⟩;rw [L.o];have hb:=B5 (Fb Z) D;replace h:=Hd (A6 h.o hb);replace b:=Hd (b.o.pure hb);replace d:=Hd (d.o.pure hb);clear j B i k m r s x y z hb D;have j:K.cell? ⟨bt,0,none⟩=some (Aa Ab p):=b.o.cell 0;have i:K.cell? ⟨bt,2,none⟩=some (Aa Ab t):=b.o.cell 2;have k:K.cell? ⟨bt,3,none⟩=some (Aa Ab v):=b.o.cell 3));obtain ⟨j,B,i,k⟩:=b.o.c4;obtain ⟨m,r,s,x,y,z⟩:=d.o.c6;go_wp2_with fail;refine(G.o _ h.o).mono ?_;rintro e w9 ⟨rfl,hb⟩;replace h:=Hd (A6 h.o hb);clear hb;go_wp2_with fail;go_ret;exact⟨rfl,h.o⟩
 ·have X:=vK;have G:=Hd hcall;have S:=Hd hf;have R:=Hd ht;have P:=Hd hi;have h:=Hd (Bq w (.cells (Ab9 p q t v) 70) (.cells (Ab8 xk xn xu xs XA xan xac XB xbn xbc) 34));have b:=Hd ((Bb.new w 70 (Ab9 p q t v)).alloc (.cells (Ab8 xk xn xu xs XA xan xac XB xbn xbc) 34));have d:=Hd (Bb.new_ (w:=w.alloc (.cells (Ab9 p q t v) 70)) (g:=w.heap.size+1) (by simp) 34 (Ab8 xk xn xu xs XA xan xac XB xbn xbc));have Q:=Hd hq;have T:=Hd hv;clear hcall hf ht hi hq hv;go_enter func87,ntmps87;go_upto_region 1 with fail
  generalize (w.alloc (.cells (Ab9 p q t v) 70)).alloc (.cells (Ab8 xk xn xu xs XA xan xac XB xbn xbc) 34)=w1 at h b d⊢;generalize I:w.heap.size=bt at b d⊢;generalize bt+1=bs at d⊢;clear I;obtain ⟨j,B,i,k⟩:=b.o.c4;obtain ⟨m,r,s,x,y,z⟩:=d.o.c6;go_wp2_with fail;go_at_call 32;refine(Es q _ Q.o).mono ?_;rintro e w' ⟨⟨c1,rfl⟩,rfl⟩;go_wp2_with fail;go_at_call 32;refine(Es v _ T.o).mono ?_;rintro e w' ⟨⟨c2,rfl⟩,rfl⟩;go_wp2_with fail;go_at_call 86;refine(Fi t _).mono ?_;rintro e Y ⟨rfl,hb⟩;rw [R.o];replace h:=Hd (A6 h.o hb);replace b:=Hd (b.o.pure hb);replace d:=Hd (d.o.pure hb);clear hb j B i k m r s x y z;obtain ⟨j,B,i,k⟩:=b.o.c4;obtain ⟨m,r,s,x,y,z⟩:=d.o.c6;go_upto_region 5 with fail
  go_region_held3 (fun w'=>w'.cell? ⟨bt,2,none⟩=some (Aa Ab t)) (first|with_reducible exact i|with_reducible exact Bc i) (first|(go_at_call 158;(with_reducible refine(P8 _).mono ?_);rintro e O ⟨g,rfl,U,C⟩;have J:=Wo t O g U;rw [S.o] at J;have hb:=B5 (Fb Y) C;replace h:=Hd (A6 h.o hb);replace b:=Hd (b.o.pure hb);replace d:=Hd (d.o.pure hb);clear j B i k m r s x y z hb C;have i:O.cell? ⟨bt,2,none⟩=some (Aa Ab t):=b.o.cell 2));obtain ⟨j,B,i,k⟩:=b.o.c4;obtain ⟨m,r,s,x,y,z⟩:=d.o.c6;go_wp2_with fail;go_at_call 78;refine(Cm t _).mono ?_;rintro e w6 ⟨rfl,hb⟩;rw [P.o];replace h:=Hd (A6 h.o hb);replace b:=Hd (b.o.pure hb);replace d:=Hd (d.o.pure hb);clear hb j B i k m r s x y z;obtain ⟨j,B,i,k⟩:=b.o.c4;obtain ⟨m,r,s,x,y,z⟩:=d.o.c6;go_wp2_with fail;go_at_call 160;refine(M.o _ h.o).mono ?_;rintro e Z ⟨rfl,hb⟩;replace h:=Hd (A6 h.o hb);replace b:=Hd (b.o.pure hb);replace d:=Hd (d.o.pure hb);clear hb j B i k m r s x y z;obtain ⟨j,B,i,k⟩:=b.o.c4;obtain ⟨m,r,s,x,y,z⟩:=d.o.c6;go_upto_region 11 with fail
  go_region_held3 (fun w'=>w'.cell? ⟨bt,0,none⟩=some (Aa Ab p)∧w'.cell? ⟨bt,2,none⟩=some (Aa Ab t)∧w'.cell? ⟨bt,3,none⟩=some (Aa Ab v)) (first|with_reducible exact⟨j,i,k⟩|with_reducible exact⟨Bc j,Bc i,Bc k⟩) (first|(go_at_call 161;(with_reducible refine(Sv t _).mono ?_);rintro e K ⟨rfl,D⟩;rw [L.o];have hb:=B5 (Fb Z) D;replace h:=Hd (A6 h.o hb);replace b:=Hd (b.o.pure hb);replace d:=Hd (d.o.pure hb);clear j B i k m r s x y z hb D;have j:K.cell? ⟨bt,0,none⟩=some (Aa Ab p):=b.o.cell 0;have i:K.cell? ⟨bt,2,none⟩=some (Aa Ab t):=b.o.cell 2;have k:K.cell? ⟨bt,3,none⟩=some (Aa Ab v):=b.o.cell 3));obtain ⟨j,B,i,k⟩:=b.o.c4;obtain ⟨m,r,s,x,y,z⟩:=d.o.c6;go_wp2_with fail;refine(G.o _ h.o).mono ?_;rintro e w9 ⟨rfl,hb⟩;replace h:=Hd (A6 h.o hb);clear hb;go_wp2_with fail;go_ret;exact⟨rfl,h.o⟩
structure yA(l:List UInt8)(T k m:Int)(tg:Bool)(a wv N f:Nat)(ty wd:Nat→Int):Prop where
 isl:Iq T=true
 kd:De T=k
 mn:Cr T=m
 tag:((k==10)||(k==17))=tg
 w8:1≤wv∧wv≤8
 md:a % wv=0
 en:a+N*wv+(if tg=true then N else 0)≤l.length
 m1:m≠0→0<m∧m=N∧f=a∧k≠17
 m0:m=0→wv≤a∧Bz l.length ((a:Int)-(wv:Int)) wv=0∧loadU l ((a:Int)-(wv:Int)) wv=N
 f1:m=0→k≠17→f+wv=a
 f3:k=17→f+3*wv=a
 typ:tg=false→∀i,ty i=Fh T∧wd i=wv
 tgs:tg=true→∀i,i<N→∃c,l[a+N*wv+i]?=some c∧Fq c=0∧I7 c=ty i∧I8 c=wd i
def K1(w:World)(e:Ending)(w':World):Prop:=e= .returned (.bool true)∧Below w.heap.size w w'
theorem Ps(A:Option Addr)(n c:Nat)(l:List UInt8)(p q T k m:Int)(tg:Bool)(a wv N f:Nat)(ty wd:Nat→Int)(XA XB:Option Addr)(xan xac xbc:Nat)(vs:List Nv)(w:World)(hl:B4 w A n l)(hc:n≤c)(hn:n≤4294967295)(F:yA l T k m tg a wv N f ty wd)(hv:It w XB N vs)(han:k≠17→xan=0)
  (hkeys:k=17→xan=N∧∀W,Below w.heap.size w W→Calls Ad 271 #[.slice A n c,Aa Ab (f:Int),Aa Ab (wv:Int),.slice XA xan xac] W (K1 W))
  (hsay:∀i x,i<N→vs[i]?=some x→∀W,Below w.heap.size w W→Calls Ad 87 #[.slice A n c,.agg #[Aa Ab ((a+i*wv:Nat):Int),Aa Ab (wv:Int),Aa Ab (ty i),Aa Ab (wd i)],Aa Ab (f:Int),.agg (Ab7 x)] W (K1 W)):
  Calls Ad 159 #[.slice A n c,.agg (Ab9 p q T (wv:Int)),Aa Ab (a:Int),.agg #[Aa Ab k,Aa Ab 0,Aa Ac 0,.string ⟨#[]⟩,.slice XA xan xac,.slice XB N xbc]] w (K1 w):=by
 unfold K1 at hkeys hsay⊢;have R:=hl.1;have c8:vs.length=N:=hv.1;have aa:=F.en;rw [R] at aa;have bn:N*1≤N*wv:=Nat.mul_le_mul_left _ F.w8.1;obtain⟨X,P⟩:∃X,N*wv=X:=⟨_,rfl⟩;have z:=Hd F;have HL:=Hd hl;have bk:=Hd hv;have a9:=Hd han;have bg:=Hd hkeys;have bi:=Hd hsay;have Z:=Hd P;obtain⟨E,hE⟩:∃E,a+X+(if tg=true then N else 0)=E:=⟨_,rfl⟩;rw [P] at aa bn;rw [hE] at aa;have aj:=Hd hE;have j:=Hd (Bq w (.cells (Ab9 p q T (wv:Int)) 70) (.cells #[Aa Ab k,Aa Ab 0,Aa Ac 0,.string ⟨#[]⟩,.slice XA xan xac,.slice XB N xbc] 34));have v:=Hd ((Bb.new w 70 (Ab9 p q T (wv:Int))).alloc (.cells #[Aa Ab k,Aa Ab 0,Aa Ac 0,.string ⟨#[]⟩,.slice XA xan xac,.slice XB N xbc] 34));have r:=Hd (Bb.new_ (w:=w.alloc (.cells (Ab9 p q T (wv:Int)) 70)) (g:=w.heap.size+1) (by simp) 34 #[Aa Ab k,Aa Ab 0,Aa Ac 0,.string ⟨#[]⟩,.slice XA xan xac,.slice XB N xbc]);have da:=F.w8;have ct:a+X≤E:=by omega
 clear hl hv han hkeys hsay F hE P;go_enter func159,ntmps159;go_upto_region 1 with fail
 generalize (w.alloc (.cells (Ab9 p q T (wv:Int)) 70)).alloc (.cells #[Aa Ab k,Aa Ab 0,Aa Ac 0,.string ⟨#[]⟩,.slice XA xan xac,.slice XB N xbc] 34)=w1 at j v r⊢;generalize aq:w.heap.size=bt at v r⊢;have ak:=Hd (show w.heap.size≤bt+1 by rw [aq];exact Nat.le_succ bt);generalize bt+1=bs at r ak⊢;clear aq;have r2:w1.cell? ⟨bt,2,none⟩=some (Aa Ab T):=v.o.cell 2;have r3:w1.cell? ⟨bt,3,none⟩=some (Aa Ab (wv:Int)):=v.o.cell 3;have n5:w1.cell? ⟨bs,5,none⟩=some (.slice XB N xbc):=r.o.cell 5;go_quiet (fail);go_wp2_with fail;go_at_call 269;have d:=below_drewN (Af w1.heap.size w1) nq;replace j:=Hd (A6 j.o d);replace v:=Hd (v.o.pure d);replace r:=Hd (r.o.pure d);clear d r2 r3 n5;generalize w1.drewN nq=wq at j v r⊢;have HS:=Hd (kQ T wq z.o.isl);rw [z.o.kd,z.o.mn] at HS;refine HS.o.mono ?_;rintro e w2 ⟨rfl,d⟩;replace j:=Hd (A6 j.o d);replace v:=Hd (v.o.pure d);replace r:=Hd (r.o.pure d);clear d HS;have n4:w2.cell? ⟨bs,4,none⟩=some (.slice XA xan xac):=r.o.cell 4;have f4:=r.o.frozen 4;obtain⟨b17,h17⟩:∃b,(k==17)=b:=⟨_,rfl⟩;obtain⟨b10,an⟩:∃b,(k==10)=b:=⟨_,rfl⟩;have ae:(b10||b17)=tg:=by rw [←h17,←an];exact z.o.tag
 go_upto_if 43 with fail
 go_cut [] (fun wx=>∃wy,wy=wx∧∃XA2 xac2,Bb wx bs 34 #[Aa Ab k,Aa Ab 0,Aa Ac 0,.string ⟨#[]⟩,.slice XA2 0 xac2,.slice XB N xbc]∧Bb wx bt 70 (Ab9 p q T (wv:Int))∧Below w.heap.size w wx)
 case first=>
  have ab:bt≠bs:=v.o.ne_ r.o (by decide);cases b17 with
  |true=>
   go_wp2_with fail;go_meet;refine⟨_,rfl,none,0,?_,?_,?_⟩
   ·exact r.o.set_ 4 (.slice none 0 0)
   ·exact v.o.far ab _
   ·exact j.o.setCell ak.o _
  |false=>
   have hz:=a9.o (by intro h;rw [h] at h17;cases h17);subst hz;go_wp2_with fail;go_meet;exact⟨_,rfl,XA,xac,r.o,v.o,j.o⟩
 case rest=>
 obtain⟨w3,rfl,XA2,xac2,hN,hR,H⟩:=hcut;clear n4 f4 r v j;obtain ⟨n0,n1,n2,n3,n4,n5⟩:=hN.c6;have HP:=Hd (Bb.new w3 34 #[Aa Ab k,Aa Ab 0,Aa Ac 0,.string ⟨#[]⟩,.slice XA2 0 xac2,.slice none 0 0]);have v:=Hd (hR.alloc (.cells #[Aa Ab k,Aa Ab 0,Aa Ac 0,.string ⟨#[]⟩,.slice XA2 0 xac2,.slice none 0 0] 34));have r:=Hd (hN.alloc (.cells #[Aa Ab k,Aa Ab 0,Aa Ac 0,.string ⟨#[]⟩,.slice XA2 0 xac2,.slice none 0 0] 34));have j:=Hd (H.alloc H.size (.cells #[Aa Ab k,Aa Ab 0,Aa Ac 0,.string ⟨#[]⟩,.slice XA2 0 xac2,.slice none 0 0] 34));clear hN hR H;have b9:IntKind.i64.wrap ((N:Int)*(wv:Int))=(X:Int):=by
  rw [←Int.natCast_mul,Z.o];exact Ag _ (by omega)
 have b8:IntKind.i64.wrap ((a:Int)+(X:Int))=((a+X:Nat):Int):=(Ag _ (by omega)).trans (by omega);go_upto_region 9 with fail
 generalize w3.alloc (.cells #[Aa Ab k,Aa Ab 0,Aa Ac 0,.string ⟨#[]⟩,.slice XA2 0 xac2,.slice none 0 0] 34)=w4 at HP v r j⊢;generalize w3.heap.size=bp at HP⊢;clear n0 n1 n2 n3 n4 n5;go_cut [17] (fun u17 wx=>w4=wx∧u17= .bool tg)
 case first=>
  cases b10 with
  |true=>
   have ht:tg=true:=by rw [←ae];rfl
   go_wp2_with fail;go_meet;exact⟨rfl,by first|rfl|rw [ht]⟩
  |false=>
   have ht:b17=tg:=by rw [←ae];rfl
   go_wp2_with fail;go_meet;exact⟨rfl,by first|rfl|rw [ht]⟩
 case rest=>
 obtain⟨rfl,rfl⟩:=hcut;go_upto_if 59 with fail
 go_cut [16] (fun u16 wx=>w4=wx∧u16= Aa Ab (E:Int))
 case first=>
  cases tg with
  |true=>
   have hE:((a+X:Nat):Int)+(N:Int)=(E:Int):=by have:=aj.o;rw [if_pos rfl] at this;omega
   have db:IntKind.i64.wrap (((a+X:Nat):Int)+(N:Int))=((a+X:Nat):Int)+(N:Int):=Ag _ (by omega);go_wp2_with fail;go_meet;exact⟨rfl,congrArg (Value.int .i64) (by omega)⟩
  |false=>
   have hE:a+X=E:=by have:=aj.o;rw [if_neg (by decide)] at this;omega
   go_wp2_with fail;go_meet;exact⟨rfl,congrArg (Value.int .i64) (by omega)⟩
 case rest=>
 obtain⟨rfl,rfl⟩:=hcut;obtain⟨f1,au⟩:∃f1:Int,(if m=0 then(a:Int)-(wv:Int) else(a:Int))=f1:=⟨_,rfl⟩;have V:=Hd au;clear au;go_upto_block 0 with fail
 go_cut [15] (fun u15 wx=>∃wy,wy=wx∧u15= Aa Ab f1∧Below w4.heap.size w4 wx)
 case first=>
  obtain ⟨p0,p1,p2,p3,p4,p5⟩:=HP.o.c6;have cb:(a:Int).tmod (wv:Int)=0:=by
   rw [Int.tmod_eq_emod_of_nonneg (by omega)];have:=z.o.md;omega
  have c9:((wv:Int)==0)=false:=beq_eq_false_iff_ne.mpr (by omega);have cv:decide ((n:Int)<(E:Int))=false:=decide_eq_false (by omega);go_wp2_with fail;go_at_call 270;refine(G5 k 0 0 [] XA2 none xac2 0 w4).mono ?_;rintro e w5 ⟨rfl,d⟩;have U:=Hd d;clear d HP p0 p1 p2 p3 p4 p5;by_cases s:m=0
  ·obtain⟨g1,O,g3⟩:=z.o.m0 s;rw [R] at O;have t:=V.o;rw [if_pos s] at t;have ay:IntKind.i64.wrap ((a:Int)-(wv:Int))=(a:Int)-(wv:Int):=Ag _ (by omega);rw [t] at O g3 ay;have al:=Hd (J5 A n c f1 wv N l w5 (HL.o.pure (A6 j.o U.o)) hc (by omega) O g3 (by omega));subst s;clear g1 O g3;go_wp2_with fail;go_at_call 160;refine al.o.mono ?_;rintro e w6 ⟨rfl,d⟩;have bb:=Hd (B5 U.o d);clear d al;go_wp2_with fail;go_meet;exact⟨_,rfl,rfl,bb.o⟩
  ·obtain⟨g1,O,_⟩:=z.o.m1 s;have t:=V.o;rw [if_neg s] at t;have bf:=Hd t;have hd:decide (0<m)=true:=decide_eq_true g1;have c7:((N:Int)==m)=true:=by rw [O];simp
   have cz:(m==0)=false:=beq_eq_false_iff_ne.mpr s;clear t g1 O s;go_wp2_with fail;go_meet;exact⟨_,rfl,by rw [bf.o],U.o⟩
 case rest=>
 obtain⟨w6,rfl,rfl,d⟩:=hcut;replace j:=Hd (A6 j.o d);replace v:=Hd (v.o.pure d);replace r:=Hd (r.o.pure d);clear d HP;go_upto_if 105 with fail
 go_cut [15] (fun u15 wx=>∃wy,wy=wx∧u15= Aa Ab (f:Int)∧Below w6.heap.size w6 wx)
 case first=>
  cases b17 with
  |true=>
   have hk:k=17:=by simpa using h17
   obtain⟨rfl,ax⟩:=bg.o hk;have g3:=z.o.f3 hk;have t:(a:Int)-((3:Int)*(wv:Int))=(f:Int):=by omega
   have dd:IntKind.i64.wrap ((3:Int)*(wv:Int))=(3:Int)*(wv:Int):=Ag _ (by omega);have ay:IntKind.i64.wrap ((a:Int)-((3:Int)*(wv:Int)))=(f:Int):=by rw [t];exact Ag _ (by omega)
   have ca:decide ((f:Int)<0)=false:=decide_eq_false (by omega);have Q:=Hd (ax w6 j.o);clear ax hk t;go_wp2_with fail;go_at_call 271;refine Q.o.mono ?_;rintro e w7 ⟨rfl,d⟩;have bd:=Hd d;clear d Q;go_wp2_with fail;go_meet;exact⟨_,rfl,rfl,bd.o⟩
  |false=>
   have hk:k≠17:=by intro h;rw [h] at h17;cases h17
   have t:f1=(f:Int):=by
    rw [←V.o];by_cases s:m=0
    ·have:=z.o.f1 s hk;rw [if_pos s];omega
    ·obtain⟨_,_,g,_⟩:=z.o.m1 s;rw [if_neg s,g]
   subst t;clear hk;go_wp2_with fail;go_meet;exact⟨_,rfl,rfl,Af _ _⟩
 case rest=>
 obtain⟨w7,rfl,rfl,d⟩:=hcut;replace j:=Hd (A6 j.o d);replace v:=Hd (v.o.pure d);replace r:=Hd (r.o.pure d);clear d;have r2:w7.cell? ⟨bt,2,none⟩=some (Aa Ab T):=v.o.cell 2;go_wp2_with fail;go_at_call 272;refine(J6 T _).mono ?_;rintro e w8 ⟨rfl,d⟩;replace j:=Hd (A6 j.o d);replace r:=Hd (r.o.pure d);clear d r2 v h17 an ae;obtain⟨el,ad⟩:∃e,Fh T=e:=⟨_,rfl⟩;have be:=Hd ad;rw [ad];clear ad;generalize Cr T=mT;generalize Ib T=vT;have n5:w8.cell? ⟨bs,5,none⟩=some (.slice XB N xbc):=r.o.cell 5;clear r;go_wp2_with fail;go_loopw [136] (fun u wr=>∃i:Nat,u= Aa Ab i∧i≤N∧Below w.heap.size w wr) (fun u _=>N-(intOf u).toNat)
 case atStart=>exact⟨0,rfl,Nat.zero_le _,j.o⟩
 case round=>
  clear n5 j;obtain⟨i,rfl,hi,ap⟩:=hrel;have j:=Hd ap;clear ap;by_cases av:i<N
  ·obtain⟨x,hx⟩:∃x,vs[i]?=some x:=⟨_,Ai (by omega)⟩;obtain⟨b2,o2,e2,a0,a1,a2,a3,a4,a5⟩:=Hp (bk.o.pure j.o) hx;have M:=Hd (bi.o i x av hx);have bo:i*wv≤X:=by rw [←Z.o];exact Nat.mul_le_mul_right _ hi
   obtain⟨Y,B⟩:∃Y,i*wv=Y:=⟨_,rfl⟩;rw [B] at bo M;obtain⟨J,hJ⟩:∃J,a+Y=J:=⟨_,rfl⟩;rw [hJ] at M;have cx:(0:Int)≤i:=by omega
   have cy:(i:Int)<N:=by omega
   have dc:IntKind.i64.wrap ((i:Int)+1)=(i:Int)+1:=Ag _ (by omega);have c5:IntKind.i64.wrap ((i:Int)*(wv:Int))=(Y:Int):=by
    rw [←Int.natCast_mul,B];exact Ag _ (by omega)
   have cu:IntKind.i64.wrap ((a:Int)+(Y:Int))=(J:Int):=(Ag _ (by omega)).trans (by omega);subst e2;have D:=Hd ((Bb.new wr 34 (Ab7 x)).alloc (.cells (Ab9 (J:Int) (wv:Int) el (wv:Int)) 70));have y:=Hd (Bb.new_ (w:=wr.alloc (.cells (Ab7 x) 34)) (g:=wr.heap.size+1) (by simp) 70 (Ab9 (J:Int) (wv:Int) el (wv:Int)));have C:=Hd (A6 j.o (Bq wr (.cells (Ab7 x) 34) (.cells (Ab9 (J:Int) (wv:Int) el (wv:Int)) 70)));go_upto_if 150 with fail
   generalize (wr.alloc (.cells (Ab7 x) 34)).alloc (.cells (Ab9 (J:Int) (wv:Int) el (wv:Int)) 70)=w9 at D y C⊢;have I:=Hd (show w.heap.size≤wr.heap.size+1 from Nat.le_succ_of_le j.o.size);have L:=Hd (show wr.heap.size≠wr.heap.size+1 by omega);generalize wr.heap.size=bx at D y I L⊢;generalize bx+1=b5 at y I L⊢;clear a0 a1 a2 a3 a4 a5;go_cut [] (fun wx=>∃wy,wy=wx∧Bb wx b5 70 #[Aa Ab (J:Int),Aa Ab (wv:Int),Aa Ab (ty i),Aa Ab (wd i)]∧Bb wx bx 34 (Ab7 x)∧Below w.heap.size w wx)
   case first=>
    cases tg with
    |true=>
     obtain⟨c0,c1,c2,c3,c4⟩:=z.o.tgs rfl i av;rw [Z.o] at c1;obtain⟨K,hK⟩:∃K,a+X+i=K:=⟨_,rfl⟩;rw [hK] at c1;have bl:K<n:=by have:=(List.getElem?_eq_some_iff.1 c1).1;omega
     obtain⟨g,dj,rfl,aw,G⟩:=Ep (HL.o.pure C.o) bl;have ar:l[K]=c0:=by
      rw [Ai aw] at c1;injection c1
     rw [ar] at G;have cs:IntKind.i64.wrap ((a:Int)+(X:Int)+(i:Int))=(K:Int):=(Ag _ (by omega)).trans (by omega);have cq:(0:Int)≤(K:Int):=by omega
     have cr:(K:Int)<(n:Int):=by omega
     have y2:w9.cell? ⟨b5,2,none⟩=some (Aa Ab el):=y.o.cell 2;have y3:w9.cell? ⟨b5,3,none⟩=some (Aa Ab (wv:Int)):=y.o.cell 3;have HU:=Hd (Ln c0 w9);rw [c2,c3,c4] at HU;clear c1 c2 c3 c4 ar aw;go_wp2_with fail;go_at_call 50;refine HU.o.mono ?_;rintro e a6 ⟨rfl,d⟩;have B:=y.o.pure d;have P:=D.o.pure d;have H:=A6 C.o d;have f2:=B.frozen 2;have f3:=B.frozen 3;have z2:a6.cell? ⟨b5,2,none⟩=some (Aa Ab el):=B.cell 2;have z3:a6.cell? ⟨b5,3,none⟩=some (Aa Ab (wv:Int)):=B.cell 3;have HY:=Hd B;have HX:=Hd P;have S:=Hd H;clear d B P H y2 y3 G HU;go_wp2_with fail;go_meet;exact⟨_,rfl,(HY.o.set_ 2 _).set_ 3 _,(HX.o.far (p:=⟨b5,2,none⟩) L.o _).far (p:=⟨b5,3,none⟩) L.o _,(S.o.setCell (p:=⟨b5,2,none⟩) I.o _).setCell (p:=⟨b5,3,none⟩) I.o _⟩
    |false=>
     obtain⟨g1,O⟩:=z.o.typ rfl i;go_wp2_with fail;go_meet;rw [g1,O,be.o];exact⟨_,rfl,y.o,D.o,C.o⟩
   case rest=>
   obtain⟨bu,rfl,B,P,H⟩:=hcut;have S:=Hd H;have HC:=Hd (M.o bu H);obtain ⟨y0,y1,y2,y3⟩:=B.c4;obtain ⟨x0,x1,x2,x3,x4,x5⟩:=P.c6;clear B P H D y C M;go_wp2_with fail;go_at_call 87;refine HC.o.mono ?_;rintro e ds ⟨rfl,d⟩;have ba:=Hd (A6 S.o d);clear d HC x0 x1 x2 x3 x4 x5 y0 y1 y2 y3;go_wp2_with fail;go_roundw
   case rel=>exact⟨i+1,by go_num,by omega,ba.o⟩
   case measure=>simp [intOf];omega
  ·obtain rfl:i=N:=by omega
   go_wp2_with fail;go_ret;exact⟨rfl,j.o⟩
end
section
open Go.Acc
def dA(w:Nat):Nat→List Bv→List P3
 |_,[]=>[]
 |a,v::r=>((a:Int),((a+w:Nat):Int),Ej v.t)::dA w (a+w) r
def kY:Nat→Nat→List P3
 |_,0=>[]
 |a,n+1=>((a:Int),((a+1:Nat):Int),8)::kY (a+1) n
def Ab4(len tags:Bool)(vs:List Bv)(v:Bv):List P3:=
 (if len=true then [(((v.n-v.w:Nat):Int),(v.n:Int),(6:Int))] else [])++dA v.w v.n vs++(if tags=true then kY (v.n+vs.length*v.w) vs.length else [])
def Ab2(vs:List Bv)(v:Bv):List P3:=
 [(((v.n-3*v.w:Nat):Int),((v.n-2*v.w:Nat):Int),(5:Int)),(((v.n-2*v.w:Nat):Int),((v.n-v.w:Nat):Int),(7:Int)),(((v.n-v.w:Nat):Int),(v.n:Int),(6:Int))]++dA v.w v.n vs++kY (v.n+vs.length*v.w) vs.length
def Ab0(l:List P3):Nat:=l.countP fun x=>decide (x.2.2≤5)
end
section
open Go.RowKit Go.Acc
mutual
def Tr.cnt:Tr→Nat
 | .mk k _ _ _ ks l=>(if k=17 then 2+ks.length else 1)+Tr.cntL l
def Tr.cntL:List Tr→Nat
 | []=>0
 |t::r=>t.cnt+Tr.cntL r
end
def xY(n:Nat)(s:Bj)(x:Bj×Int):Prop:=x.2=0∧s.left-n≤x.1.left∧x.1.left≤s.left
def qR(go:Rq→Bj→Bj×Int)(d:Nat)(n:Nat)(r:Rq):Prop:=∀s:Bj,(n:Int)≤s.left→s.left.toNat<d→xY n s (go r s)
def S9(a b c:Int):List P3:=if a<b then [(a,b,c)] else []
def Aa5(r:Rq):List P3:=S9 r.p (r.p+r.q) (Ej r.t)
def Abq(l:List UInt8)(r:Rq):List P3:=
 if Kr [4,5,25] r.t=true then
  (if r.t=4 then S9 (C6 l r.p r.q r.t r.v [4,5,25]) (C6 l r.p r.q r.t r.v [4,5,25]+(Eo l r.p r.q r.t r.v [4,5,25]).length+1) 9
  else if r.t=5 then S9 (C6 l r.p r.q r.t r.v [4,5,25]-r.v) (C6 l r.p r.q r.t r.v [4,5,25]) 6++S9 (C6 l r.p r.q r.t r.v [4,5,25]) (C6 l r.p r.q r.t r.v [4,5,25]+(Eo l r.p r.q r.t r.v [4,5,25]).length+1) 10
  else S9 (C6 l r.p r.q r.t r.v [4,5,25]-r.v) (C6 l r.p r.q r.t r.v [4,5,25]) 6++S9 (C6 l r.p r.q r.t r.v [4,5,25]) (C6 l r.p r.q r.t r.v [4,5,25]+(Eo l r.p r.q r.t r.v [4,5,25]).length) 11)
 else if r.t=6∨r.t=7 then S9 (Hr l r.p r.q r.t r.v) (Hr l r.p r.q r.t r.v+Jl l r.p r.q r.t r.v) (if r.t=6 then 12 else 13)
 else(if r.t=9 then S9 (lsFrom l r.p r.q r.t r.v+r.v) (lsFrom l r.p r.q r.t r.v+2*r.v) 7 else [])++(if lsFrom l r.p r.q r.t r.v<lsAt l r.p r.q r.t r.v then S9 ((lsAt l r.p r.q r.t r.v:Int)-r.v) (lsAt l r.p r.q r.t r.v) 6 else [])++
  (if Dk r.t=true then(List.range (lsLen l r.p r.q r.t r.v)).flatMap fun i=>S9 ((lsAt l r.p r.q r.t r.v:Int)+lsLen l r.p r.q r.t r.v*r.v+(i:Nat)) ((lsAt l r.p r.q r.t r.v:Int)+lsLen l r.p r.q r.t r.v*r.v+(i:Nat)+1) 8 else [])
def Aaz(l:List UInt8)(r:Rq):List Rq:=
 if Kr [4,5,25] r.t=true∨r.t=6∨r.t=7 then [] else(if r.t=9 then [Gf l r] else [])++(List.range (lsLen l r.p r.q r.t r.v)).map fun i=>G0 l r i
def Zh(l:List UInt8)(s:Bj)(c:Rq):Prop:=(∀x∈Aa5 c,x∈s.o)∧(Bt c.t=true∨(Bt c.t=false∧B8 l c.p c.q c.t c.v=0∧F7 l c∈s.had))
def iF(l:List UInt8)(s:Bj)(y:P3):Prop:=∃r,F7 l r=y∧B8 l r.p r.q r.t r.v=0∧Bt r.t=false∧(∀x∈Abq l r,x∈s.o)∧∀c∈Aaz l r,Zh l s c
section
variable {l:List UInt8} {U V:P3→Prop} {s s' s'':Bj}
theorem Zh.mono{c:Rq}(h:Zh l s c)(hs:∀y∈s.had,y∈s'.had)(ho:∀x∈s.o,x∈s'.o):Zh l s' c:=⟨fun x hx=>ho x (h.1 x hx),h.2.imp id fun h=>⟨h.1,h.2.1,hs _ h.2.2⟩⟩
theorem iF.mono{y:P3}(h:iF l s y)(hs:∀y∈s.had,y∈s'.had)(ho:∀x∈s.o,x∈s'.o):iF l s' y:=by
 obtain⟨r,h1,h2,h3,h4,h5⟩:=h;exact⟨r,h1,h2,h3,fun x hx=>ho x (h4 x hx),fun c hc=>(h5 c hc).mono hs ho⟩
end
section
variable {l:List UInt8} {go:Rq→Bj→Bj×Int} (r:Rq)
end
end
end Go.Proofs.YtejpbijeifjdeaaGreat
