/- Parts of the proof. -/
import Derived.Test.YtejpbijeifjdeaaGreatQv05
import Derived.Laws.EntriesVeiled
import Derived.MapKept
import Derived.Carry
set_option maxHeartbeats 4000000
set_option maxRecDepth 100000
open Go.Value renaming int→Aa
open Go.IntKind renaming i64→Ab,u64→Ac
open Nat renaming le_refl→Ae
open Go.RowKit.Below renaming refl→Af
open List renaming getElem?_eq_getElem→Ai,length_append→Ak,getD_eq_getElem?_getD→Ay
open UInt8 renaming ofNat→Aq
open Go.Instr renaming mapUpdate→As
open Go.Proofs.Tryz
open Go.Proofs.Tryz renaming prog→Ad
namespace Go.Proofs.YtejpbijeifjdeaaGreat
open Go.RowKit Go.Acc
variable {w w':World}{g vb:Nat}{t:TypeId}{p q t':Value}{a c d fl:Int}{l:List UInt8}{x y:UInt8}{M:Bp}{o:Nat→Nat}{b:Bd}{v:Bv}
def Ko(x:Int):Int:=if Br x=true then 0 else 2
def jA(x:Int):Int:=if x=2 then 1 else if x=4 then 2 else if x=8 then 3 else 0
theorem Iw(x:Int)(w:World):Calls Ad 32 #[Aa Ab x] w (Ab6 (.tuple #[Aa Ab (jA x),Aa Ab (Ko x)]) w):=by
 cases hw:Br x with
 |true=>
  have a:=B6.1 hw;clear hw;rcases a with rfl|rfl|rfl|rfl
  all_goals
   go_enter func32,ntmps32;go_wp2;refine wp_loop_rounds 5 ?_
   repeat (rw [rounds_succ];go_wp2)
   go_ret2;exact⟨rfl,rfl⟩
 |false=>
  have a:=aM.1 hw;have b:=Hd (show jA x=0 by unfold jA;rw [if_neg a.2.1,if_neg a.2.2.1,if_neg a.2.2.2]);have c:=Hd (show Ko x=2 by unfold Ko;rw [hw];rfl);rw [b.o,c.o];have d:(x==1)=false:=beq_eq_false_iff_ne.mpr a.1;have e:(x==2)=false:=beq_eq_false_iff_ne.mpr a.2.1;have f:(x==4)=false:=beq_eq_false_iff_ne.mpr a.2.2.1;have g:(x==8)=false:=beq_eq_false_iff_ne.mpr a.2.2.2;clear a hw;go_enter func32,ntmps32;go_wp2;refine wp_loop_rounds 5 ?_
  repeat (rw [rounds_succ];go_wp2)
  go_ret2;exact⟨rfl,rfl⟩
theorem Zy{x:Int}(h:Br x=false):Ko x=2:=by unfold Ko;rw [h];rfl
theorem Xz{x:Int}(h:Br x=true):Ko x=0:=by unfold Ko;rw [h];rfl
theorem M5(x:Int)(w:World):Calls Ad 76 #[Aa Ab x] w (Ab6 (.bool (Br x)) w):=by
 cases hw:Br x with
 |true=>
  have H:=Hd (Xz hw);clear hw;go_enter func76,ntmps76;go_wp2_with fail;go_at_call 32;refine(Iw _ _).mono ?_;rw [H.o];rintro e a ⟨rfl,rfl⟩;go_wp2;go_ret;exact⟨rfl,rfl⟩
 |false=>
  have H:=Hd (Zy hw);clear hw;go_enter func76,ntmps76;go_wp2_with fail;go_at_call 32;refine(Iw _ _).mono ?_;rw [H.o];rintro e a ⟨rfl,rfl⟩;go_wp2;go_ret;exact⟨rfl,rfl⟩
theorem Hj(A:Option Addr)(n c:Nat)(a m:Int)(w:World)(hn:n≤9223372036854775807):Calls Ad 246 #[.slice A n c,Aa Ab a,Aa Ab m] w (Ab6 (.bool (Gz n a m)) w):=by
 by_cases h1:0≤a
 ·by_cases h2:0≤m
  ·by_cases h3:a≤n
   ·have e:(0:Int)≤(n:Int)-a:=by omega
    by_cases d:m≤(n:Int)-a
    ·have H:=Hd (show Gz n a m=true from Em.2 ⟨h1,h2,by omega⟩);go_enter func246,ntmps246;go_wp2;go_ret;exact⟨Ck H.o.symm,rfl⟩
    ·have H:=Hd (show Gz n a m=false from decide_eq_false (fun h=>d (by omega)));have b:decide (m≤(n:Int)-a)=false:=decide_eq_false d;go_enter func246,ntmps246;go_wp2;go_ret;exact⟨Ck H.o.symm,rfl⟩
   ·have H:=Hd (show Gz n a m=false from decide_eq_false (fun h=>h3 (by omega)));have b:decide (a≤(n:Int))=false:=decide_eq_false h3;go_enter func246,ntmps246;go_wp2;go_ret;exact⟨Ck H.o.symm,rfl⟩
  ·have H:=Hd (show Gz n a m=false from decide_eq_false (fun h=>h2 (by omega)));have b:decide (0≤m)=false:=decide_eq_false h2;go_enter func246,ntmps246;go_wp2;go_ret;exact⟨Ck H.o.symm,rfl⟩
 ·have H:=Hd (show Gz n a m=false from decide_eq_false (fun h=>h1 (by omega)));have b:decide (0≤a)=false:=decide_eq_false h1;go_enter func246,ntmps246;go_wp2;go_ret;exact⟨Ck H.o.symm,rfl⟩
theorem Nj(A:Option Addr)(n c:Nat)(a m:Int)(w:World)(hn:n≤9223372036854775807):Calls Ad 273 #[.slice A n c,Aa Ab a,Aa Ab m] w (Ab6 (.bool (Gz n a m)) w):=by
 by_cases h1:0≤a
 ·by_cases h2:0≤m
  ·by_cases h3:a≤n
   ·have e:(0:Int)≤(n:Int)-a:=by omega
    by_cases d:m≤(n:Int)-a
    ·have H:=Hd (show Gz n a m=true from Em.2 ⟨h1,h2,by omega⟩);go_enter func273,ntmps273;go_wp2;go_ret;exact⟨Ck H.o.symm,rfl⟩
    ·have H:=Hd (show Gz n a m=false from decide_eq_false (fun h=>d (by omega)));have b:decide (m≤(n:Int)-a)=false:=decide_eq_false d;go_enter func273,ntmps273;go_wp2;go_ret;exact⟨Ck H.o.symm,rfl⟩
   ·have H:=Hd (show Gz n a m=false from decide_eq_false (fun h=>h3 (by omega)));have b:decide (a≤(n:Int))=false:=decide_eq_false h3;go_enter func273,ntmps273;go_wp2;go_ret;exact⟨Ck H.o.symm,rfl⟩
  ·have H:=Hd (show Gz n a m=false from decide_eq_false (fun h=>h2 (by omega)));have b:decide (0≤m)=false:=decide_eq_false h2;go_enter func273,ntmps273;go_wp2;go_ret;exact⟨Ck H.o.symm,rfl⟩
 ·have H:=Hd (show Gz n a m=false from decide_eq_false (fun h=>h1 (by omega)));have b:decide (0≤a)=false:=decide_eq_false h1;go_enter func273,ntmps273;go_wp2;go_ret;exact⟨Ck H.o.symm,rfl⟩
theorem Bg{v:Value}(h:Bb w g t #[p,q,t',v]):w.cell? ⟨g,0,none⟩=some p:=h.cell 0
theorem Bf{v:Value}(h:Bb w g t #[p,q,t',v]):w.cell? ⟨g,1,none⟩=some q:=h.cell 1
theorem Be{v:Value}(h:Bb w g t #[p,q,t',v]):w.cell? ⟨g,2,none⟩=some t':=h.cell 2
theorem Bh{v:Value}(h:Bb w g t #[p,q,t',v]):w.cell? ⟨g,3,none⟩=some v:=h.cell 3
theorem oM(b:Nat)(p q t v:Int)(w:World)(hK:Bb w b 70 (Ab9 p q t v)):Calls Ad 244 #[Aca b] w (Ab5 (.bool (Gr q t v)) w):=by
 have k:=Be hK;have i:=Hd hK;clear hK;cases hl:Ch t with
 |false=>
  have f:=Hd hl;have d:=Hd (show Gr q t v=false by unfold Gr;rw [hl];rfl);rw [d.o];clear hl;go_enter func244,ntmps244;go_wp2_with fail;go_at_call 86;refine(Fi t _).mono ?_;rw [f.o];rintro e h ⟨rfl,a⟩;have c:=Hd a;clear a;go_wp2;go_ret;exact⟨rfl,c.o⟩
 |true=>
  have f:=Hd hl;have d:=Hd (show Gr q t v=(Br q&&Br v) by unfold Gr;rw [hl];rfl);rw [d.o];clear hl;go_enter func244,ntmps244;go_wp2_with fail;go_at_call 86;refine(Fi t _).mono ?_;rw [f.o];rintro e h ⟨rfl,a⟩;have c:=Hd a;have j:=Bf (i.o.pure a);have l:=Bh (i.o.pure a);clear a;go_wp2_with fail;go_at_call 76;refine(M5 q _).mono ?_;rintro e h ⟨rfl,rfl⟩;cases hq:Br q with
  |false=>
   have g:=Hd hq;clear hq;go_wp2;go_ret;exact⟨Ck (by rw [g.o];rfl),c.o⟩
  |true=>
   have g:=Hd hq;clear hq;go_wp2_with fail;go_at_call 76;refine(M5 v _).mono ?_;rintro e h ⟨rfl,rfl⟩;go_wp2;go_ret;exact⟨Ck (by rw [g.o];rfl),c.o⟩
theorem oN(a b:Nat)(A:Option Addr)(n c:Nat)(p q t v:Int)(w:World)(hn:n≤9223372036854775807)(hA:Bb w a 22 #[.slice A n c])(hK:Bb w b 70 (Ab9 p q t v)):
  Calls Ad 245 #[Aca a,Aca b] w (Ab6 (.bool (Gz n p q)) w):=by
 obtain ⟨f,g⟩:=hK.c2;have d:w.cell? ⟨a,0,none⟩=some (.slice A n c):=hA.cell 0;clear hK hA;go_enter func245,ntmps245;go_wp2_with fail;go_at_call 246;refine(Hj A n c p q _ hn).mono ?_;rintro e h ⟨rfl,rfl⟩;go_wp2;go_ret;exact⟨rfl,rfl⟩
theorem M9(A:Option Addr)(n c:Nat)(p q t v:Int)(w:World)(hn:n≤9223372036854775807):Calls Ad 148 #[.slice A n c,.agg (Ab9 p q t v)] w (Ab5 (Aa Ab (Cc n p q t v)) w):=by
 have f:=Hd ((Bb.new w 22 #[.slice A n c]).alloc (.cells (Ab9 p q t v) 70));have d:=Hd (Bb.new_ (w:=w.alloc (.cells #[.slice A n c] 22)) (g:=w.heap.size+1) (by simp) 70 (Ab9 p q t v));have i:=Tryz.call244;have j:=Tryz.call245;go_enter func148,ntmps148;go_wp2;refine wp_loop_rounds 3 ?_;rw [rounds_succ];go_wp2_with fail;refine(oM (w.heap.size+1) p q t v _ ((d.o.alloc _).alloc _)).mono ?_;rintro e u ⟨rfl,a⟩;have l:=Hd ((Bb.new_ (w:=((w.alloc (.cells #[.slice A n c] 22)).alloc (.cells (Ab9 p q t v) 70))) (g:=w.heap.size+1+1) (by simp) _ _).alloc _ |>.pure a);have m:=Hd ((Bb.new_ (g:=w.heap.size+1+1+1) (by simp) _ _).pure a);have f:=Hd (((f.o.alloc _).alloc _).pure a);have d:=Hd (((d.o.alloc _).alloc _).pure a);have h:=Hd (((((Af w.heap.size w).alloc (Ae _) _).alloc (by simp) _).alloc (by simp;omega) _).alloc (by simp;omega) _ |>.trans (a.mono (by simp;omega)));have x:w.heap.size+1+1+1<u.heap.size:=by have:=m.o.lt;omega
 clear a;cases hf:Gr q t v with
 |false=>
  have b:=Hd (show Cc n p q t v=2 by unfold Cc;rw [hf];rfl);have z:=(m.o.cell 1).trans (show _=some (Aa Ab 2) from rfl);clear hf i j;go_wp2;go_ret;exact⟨En b.o.symm,h.o⟩
 |true=>
  have b:=Hd (show Cc n p q t v=if Gz n p q=true then 0 else 6 by unfold Cc;rw [hf];rfl);have r:=l.o.cell 2;have s:=l.o.cell 3;simp only [List.getElem?_toArray,List.getElem?_cons_succ,List.getElem?_cons_zero] at r s;clear hf;go_wp2;rw [rounds_succ];go_wp2_with fail;refine(oN w.heap.size (w.heap.size+1) A n c p q t v _ hn (f.o.alloc _) (d.o.alloc _)).mono ?_;rintro e y ⟨rfl,rfl⟩;clear r s;cases hi:Gz n p q with
  |true=>
   have k:=Hd hi;clear hi;go_wp2;rw [rounds_succ];go_wp2;go_ret;exact⟨En (by rw [b.o,k.o];rfl),h.o.alloc (by omega) _⟩
  |false=>
   have k:=Hd hi;clear hi;go_wp2;go_ret;exact⟨En (by rw [b.o,k.o];rfl),h.o.alloc (by omega) _⟩
theorem Lx(A:Option Addr)(n c:Nat)(p q t v:Int)(w:World)(hn:n≤9223372036854775807):Calls Ad 179 #[.slice A n c,.agg (Ab9 p q t v)] w (Ab5 (Aa Ab (Cc n p q t v)) w):=by
 have b:=Hd ((Af w.heap.size w).alloc (Ae _) (.cells (Ab9 p q t v) 70));go_enter func179,ntmps179;go_wp2_with fail;go_at_call 174;refine(Oh t _).mono ?_;rintro e g ⟨rfl,rfl⟩;cases hl:Ch t with
 |false=>
  have a:=Hd (show Cc n p q t v=2 by unfold Cc Gr;rw [hl];rfl);clear hl;go_wp2;go_ret;exact⟨En a.o.symm,b.o⟩
 |true=>
  have f:=Hd hl;clear hl;go_wp2_with fail;go_at_call 95;refine(E4 q _).mono ?_;rintro e g ⟨rfl,rfl⟩;cases hq:Br q with
  |false=>
   have a:=Hd (show Cc n p q t v=2 by unfold Cc Gr;rw [f.o,hq];rfl);clear hq;go_wp2;go_ret;exact⟨En a.o.symm,b.o⟩
  |true=>
   have h:=Hd hq;clear hq;go_wp2_with fail;go_at_call 95;refine(E4 v _).mono ?_;rintro e g ⟨rfl,rfl⟩;cases hv:Br v with
   |false=>
    have a:=Hd (show Cc n p q t v=2 by unfold Cc Gr;rw [f.o,h.o,hv];rfl);clear hv;go_wp2;go_ret;exact⟨En a.o.symm,b.o⟩
   |true=>
    have a:=Hd (show Cc n p q t v=if Gz n p q=true then 0 else 6 by unfold Cc Gr;rw [f.o,h.o,hv];rfl);clear hv;go_wp2_with fail;go_at_call 273;refine(Nj A n c p q _ hn).mono ?_;rintro e g ⟨rfl,rfl⟩;cases hi:Gz n p q with
    |true=>
     have d:=Hd hi;clear hi;go_wp2;go_ret;exact⟨En (by rw [a.o,d.o];rfl),b.o⟩
    |false=>
     have d:=Hd hi;clear hi;go_wp2;go_ret;exact⟨En (by rw [a.o,d.o];rfl),b.o⟩
theorem Lw{k k':IntKind}{b:Int}(h:a=b)(h':c=d):Ending.returned (.tuple #[.int k a,.int k' c])= .returned (.tuple #[.int k b,.int k' d]):=by rw [h,h']
theorem Zb(h:Below w.heap.size w w'):Below w.heap.size w w':=h
theorem Xa(h:w=w'):Below w.heap.size w w':=by subst h;exact Af _ _
theorem Lm(A:Option Addr)(n c:Nat)(p q t v:Int)(l:List UInt8)(w:World)(hl:B4 w A n l)(hc:n≤c)(hn:n≤9223372036854775807):
  Calls Ad 79 #[.slice A n c,.agg (Ab9 p q t v)] w (Ab5 (.tuple #[Aa Ab (By l p q t v),Aa Ab (B8 l p q t v)]) w):=by
 have x:=hl.1;subst x;have g:=Hd (hl.alloc (.cells (Ab9 p q t v) 70));have f:=Hd (Bb.new w 70 (Ab9 p q t v));have d:=Hd ((Af w.heap.size w).alloc (Ae _) (.cells (Ab9 p q t v) 70));clear hl;go_enter func79,ntmps79;go_wp2_with fail;go_at_call 148;refine(M9 A l.length c p q t v _ hn).mono ?_;rintro e J ⟨rfl,a⟩;by_cases b:Cc l.length p q t v=0
 ·rw [b];have d:=Hd (A6 d.o a);have f:=Hd (f.o.pure a);have g:=Hd (g.o.pure a);obtain ⟨k,m,r,s⟩:=f.o.c4;clear a;go_wp2_with fail;go_at_call 78;refine(Cm t _).mono ?_;rintro e K ⟨rfl,a⟩;have a:=Zb a;clear k m r s;cases hi:Bt t with
  |true=>
   have i:=Hd (Ud b hi);have h:=Hd (gT b hi);have d:=Hd (A6 d.o a);clear b hi a;go_wp2;go_ret2;exact⟨Lw h.o.symm i.o.symm,d.o⟩
  |false=>
   obtain⟨h1,h2⟩:=Dy.1 b;have h2:=Em.1 h2;have h1:=Cz.1 h1;have D:=h2.1;have E:=h2.2.2;have F:1≤q:=by have:=B6.1 h1.2.1;omega
   have z:=Hd (bK b);have d:=Hd (A6 d.o a);have f:=Hd (f.o.pure a);have g:=Hd (g.o.pure a);obtain ⟨k,m,r,s⟩:=f.o.c4;clear a;go_wp2_with fail;go_at_call 149;refine(Ka A l.length c p q _ _ g.o hc hn).mono ?_;rw [z.o];rintro e L ⟨rfl,a⟩;clear k m r s;have d:=Hd (A6 d.o a);have f:=Hd (f.o.pure a);have g:=Hd (g.o.pure a);obtain ⟨k,m,r,s⟩:=f.o.c4;clear a;by_cases j:p<(loadU l p q:Int)
   ·have i:=Hd (Ue b hi j);have h:=Hd (gV b hi j);generalize loadU l p q=u at j;clear b hi h1 h2;have G:IntKind.u64.wrap p=p:=Ce p (by omega);go_wp2;go_ret2;exact⟨Lw h.o.symm i.o.symm,d.o⟩
   ·have i:=Hd (Xl b hi j);have h:=Hd (qD b hi j);have B:=Hd (show loadU l p q=loadU l p q from rfl);obtain⟨u,y⟩:∃u,loadU l p q=u:=⟨_,rfl⟩;rw [y] at j h⊢;clear b hi h1 h2 y B;have G:IntKind.u64.wrap p=p:=Ce p (by omega);have H:wrap64 (u:Int)=u:=C8 _ (by omega);have I:wrap64 (p-(u:Int))=p-u:=C8 _ (by omega);go_wp2;go_ret2;exact⟨Lw h.o.symm i.o.symm,d.o⟩
 ·have i:=Hd (Ld b);have h:=Hd (gU b);have C:(Cc l.length p q t v != 0)=true:=by simpa using b
  have d:=Hd (A6 d.o a);have f:=Hd (f.o.pure a);have g:=Hd (g.o.pure a);obtain ⟨k,m,r,s⟩:=f.o.c4;clear a;clear b;go_wp2;go_ret2;exact⟨Lw h.o.symm i.o.symm,d.o⟩
theorem Fj(A:Option Addr)(n c:Nat)(p q t v:Int)(l:List UInt8)(w:World)(hl:B4 w A n l)(hn:n≤9223372036854775807):
  Calls Ad 99 #[.slice A n c,.agg (Ab9 p q t v)] w (Ab5 (.tuple #[Aa Ab (By l p q t v),Aa Ab (B8 l p q t v)]) w):=by
 have x:=hl.1;subst x;have g:=Hd (hl.alloc (.cells (Ab9 p q t v) 70));have f:=Hd (Bb.new w 70 (Ab9 p q t v));have d:=Hd ((Af w.heap.size w).alloc (Ae _) (.cells (Ab9 p q t v) 70));clear hl;go_enter func99,ntmps99;go_wp2_with fail;go_at_call 179;refine(Lx A l.length c p q t v _ hn).mono ?_;rintro e J ⟨rfl,a⟩;by_cases b:Cc l.length p q t v=0
 ·rw [b];have d:=Hd (A6 d.o a);have f:=Hd (f.o.pure a);have g:=Hd (g.o.pure a);obtain ⟨k,m,r,s⟩:=f.o.c4;clear a;go_wp2_with fail;go_at_call 97;refine(Ni t _).mono ?_;rintro e K ⟨rfl,a⟩;have a:=Xa a;clear k m r s;cases hi:Bt t with
  |true=>
   have i:=Hd (Ud b hi);have h:=Hd (gT b hi);have d:=Hd (A6 d.o a);clear b hi a;go_wp2;go_ret2;exact⟨Lw h.o.symm i.o.symm,d.o⟩
  |false=>
   obtain⟨h1,h2⟩:=Dy.1 b;have h2:=Em.1 h2;have h1:=Cz.1 h1;have D:=h2.1;have E:=h2.2.2;have F:1≤q:=by have:=B6.1 h1.2.1;omega
   have z:=Hd (bK b);have d:=Hd (A6 d.o a);have f:=Hd (f.o.pure a);have g:=Hd (g.o.pure a);obtain ⟨k,m,r,s⟩:=f.o.c4;clear a;go_wp2_with fail;go_at_call 176;refine(H9 A l.length c p q _ _ g.o hn).mono ?_;rw [z.o];rintro e L ⟨rfl,a⟩;clear k m r s;have d:=Hd (A6 d.o a);have f:=Hd (f.o.pure a);have g:=Hd (g.o.pure a);obtain ⟨k,m,r,s⟩:=f.o.c4;clear a;by_cases j:p<(loadU l p q:Int)
   ·have i:=Hd (Ue b hi j);have h:=Hd (gV b hi j);generalize loadU l p q=u at j;clear b hi h1 h2;have G:IntKind.u64.wrap p=p:=Ce p (by omega);go_wp2;go_ret2;exact⟨Lw h.o.symm i.o.symm,d.o⟩
   ·have i:=Hd (Xl b hi j);have h:=Hd (qD b hi j);have B:=Hd (show loadU l p q=loadU l p q from rfl);obtain⟨u,y⟩:∃u,loadU l p q=u:=⟨_,rfl⟩;rw [y] at j h⊢;clear b hi h1 h2 y B;have G:IntKind.u64.wrap p=p:=Ce p (by omega);have H:wrap64 (u:Int)=u:=C8 _ (by omega);have I:wrap64 (p-(u:Int))=p-u:=C8 _ (by omega);go_wp2;go_ret2;exact⟨Lw h.o.symm i.o.symm,d.o⟩
 ·have i:=Hd (Ld b);have h:=Hd (gU b);have C:(Cc l.length p q t v != 0)=true:=by simpa using b
  have d:=Hd (A6 d.o a);have f:=Hd (f.o.pure a);have g:=Hd (g.o.pure a);obtain ⟨k,m,r,s⟩:=f.o.c4;clear a;clear b;go_wp2;go_ret2;exact⟨Lw h.o.symm i.o.symm,d.o⟩
theorem Ga{b e:Int}{r:(Int×Int×Int×Int)}{f:Int}(h:r=(a,b,c,d))(h':f=e):
  Ending.returned (.tuple #[.agg (Ab9 a b c d),Aa Ab e])= .returned (.tuple #[.agg (Ab9 r.1 r.2.1 r.2.2.1 r.2.2.2),Aa Ab f]):=by
 subst h h';rfl
theorem Hk(h:Dq l≠0):Df l=(0,0,0,0):=if_neg h
theorem Oy(h:l.length<3):Dq l=210:=if_pos (.inl h)
theorem Oz(hx:l.getD (l.length-1) 0=x)(hw:Br (x.toNat:Int)=false):Dq l=210:=by
 unfold Dq;rw [hx,if_pos (.inr hw)]
theorem Xb(h3:¬l.length<3)(hx:l.getD (l.length-1) 0=x)(hy:l.getD (l.length-2) 0=y)(hw:Br (x.toNat:Int)=true)(hu:Fq y≠0):Dq l=Fq y:=by
 unfold Dq;rw [hx,hy,if_neg (by rw [hw];simp;omega),if_pos hu]
theorem Xc(h3:¬l.length<3)(hx:l.getD (l.length-1) 0=x)(hy:l.getD (l.length-2) 0=y)(hw:Br (x.toNat:Int)=true)(hu:Fq y=0):
  Dq l=if(l.length:Int)-2-x.toNat<0∨((l.length:Int)-2-x.toNat) % x.toNat≠0 then 210 else 0:=by
 unfold Dq;rw [hx,hy,if_neg (by rw [hw];simp;omega),if_neg (by simpa using hu)]
theorem Qh(hx:l.getD (l.length-1) 0=x)(hy:l.getD (l.length-2) 0=y)(he:Dq l=0):Df l=((l.length:Int)-2-x.toNat,((x.toNat:Nat):Int),I7 y,I8 y):=by
 unfold Df;rw [if_pos he,hx,hy]
theorem Yt(A:Option Addr)(n c:Nat)(l:List UInt8)(w:World)(hl:B4 w A n l)(hn:n≤9223372036854775807):
  Calls Ad 43 #[.slice A n c] w (Ab5 (.tuple #[.agg #[Aa Ab (Df l).1,Aa Ab (Df l).2.1,Aa Ab (Df l).2.2.1,Aa Ab (Df l).2.2.2],Aa Ab (Dq l)]) w):=by
 have r:=hl.1;subst r;by_cases h3:l.length<3
 ·have a:=Hd (Oy h3);have d:=Hd (Hk (by rw [Oy h3];decide));go_enter func43,ntmps43;go_wp2;refine bodyPost_ret (v:= .tuple #[.agg (Ab9 0 0 0 0),Aa Ab 210]) (by simp [results,results43,go_sem]) rfl ⟨Ga d.o a.o,?_⟩;exact(Af _ _).alloc (Ae _) _
 ·obtain⟨b,t,rfl,p,E⟩:=Ep hl (k:=l.length-1) (by omega);obtain⟨X,O,H,q,u⟩:=Ep hl (k:=l.length-2) (by omega);injection H with H
  injection H with e1 e2
  subst e1 e2;have K:l.getD (l.length-1) 0=l[l.length-1]:=by rw [Ay,Ai p];rfl
  have L:l.getD (l.length-2) 0=l[l.length-2]:=by rw [Ay,Ai q];rfl
  generalize l[l.length-1]=x at K E;generalize l[l.length-2]=y at L u;have U:=x.toNat_lt;have m:=Hd K;have G:=Hd L;have j:=Hd E;have F:=Hd u;have E:(w.alloc (.cells (Ab9 0 0 0 0) 70)).cell? ⟨b,t+(l.length-1),none⟩=some (.int .u8 (x.toNat:Int)):=Ba ((Af _ _).alloc (Ae _) _) j.o;clear hl K L p q u;go_enter func43,ntmps43;go_wp2_with fail;go_at_call 76;refine(M5 _ _).mono ?_;rintro e W ⟨rfl,rfl⟩;cases hw:Br (x.toNat:Int) with
  |false=>
   have a:=Hd (Oz m.o hw);have d:=Hd (Hk (by rw [Oz m.o hw];decide));clear hw;go_wp2;refine bodyPost_ret (v:= .tuple #[.agg (Ab9 0 0 0 0),Aa Ab 210]) (by simp [results,results43,go_sem]) rfl ⟨Ga d.o a.o,?_⟩;exact(Af _ _).alloc (Ae _) _
  |true=>
   have N:=Hd hw;have h:1≤x.toNat∧x.toNat≤8:=by have:=B6.1 hw;omega
   have S:=h.1;have T:=h.2;have u:(w.alloc (.cells (Ab9 0 0 0 0) 70)).cell? ⟨b,t+(l.length-2),none⟩=some (.int .u8 (y.toNat:Int)):=Ba ((Af _ _).alloc (Ae _) _) F.o;clear hw h;go_wp2_with fail;go_at_call 50;refine(Ln y _).mono ?_;rintro e W ⟨rfl,I⟩;have i:=Hd (B5 ((Af w.heap.size w).alloc (Ae _) _) I);have M:=Hd ((Bb.new w 70 (Ab9 0 0 0 0)).pure I);obtain ⟨z,B,C,D⟩:=M.o.c4;obtain ⟨Y,Z,f2,f3⟩:=M.o.f4;have E:=Ba i.o j.o;clear u I;by_cases g:Fq y=0
   ·have f:=Hd (Xc h3 m.o G.o N.o g);rw [g];clear g;by_cases Q:(l.length:Int)-2-x.toNat<0
    ·have a:=Hd (show Dq l=210 by rw [f.o,if_pos (.inl Q)]);have d:=Hd (Hk (by rw [a.o];decide));go_wp2;refine bodyPost_ret (v:= .tuple #[.agg (Ab9 0 0 0 0),Aa Ab 210]) (by simp [results,results43,go_sem,z,B,C,D]) rfl ⟨Ga d.o a.o,?_⟩;exact(((i.o.setCell (Ae _) _).setCell (Ae _) _).setCell (Ae _) _).setCell (Ae _) _
    ·have R:0≤(l.length:Int)-2-x.toNat:=by omega
     have V:(x.toNat==0)=false:=by simp;omega
     by_cases s:((l.length:Int)-2-x.toNat) % x.toNat=0
     ·have a:=Hd (show Dq l=0 by rw [f.o,if_neg (by omega)]);have d:=Hd (Qh m.o G.o a.o);have J:(((l.length:Int)-2) % (x.toNat:Int) != 0)=false:=by simpa using s
      clear s;go_wp2;refine bodyPost_ret (v:= .tuple #[.agg #[Aa Ab ((l.length:Int)-2-x.toNat),Aa Ab ((x.toNat:Nat):Int),Aa Ab (I7 y),Aa Ab (I8 y)],Aa Ab 0]) (by simp [results,results43,go_sem,z,B,C,D]) rfl ⟨Ga d.o a.o,?_⟩;exact(((i.o.setCell (Ae _) _).setCell (Ae _) _).setCell (Ae _) _).setCell (Ae _) _
     ·have a:=Hd (show Dq l=210 by rw [f.o,if_pos (.inr s)]);have d:=Hd (Hk (by rw [a.o];decide));have J:(((l.length:Int)-2) % (x.toNat:Int) != 0)=true:=by simpa using s
      clear s;go_wp2;refine bodyPost_ret (v:= .tuple #[.agg (Ab9 0 0 0 0),Aa Ab 210]) (by simp [results,results43,go_sem,z,B,C,D]) rfl ⟨Ga d.o a.o,?_⟩;exact(((i.o.setCell (Ae _) _).setCell (Ae _) _).setCell (Ae _) _).setCell (Ae _) _
   ·have a:=Hd (Xb h3 m.o G.o N.o g);have d:=Hd (Hk (by rw [a.o];exact g));have P:(Fq y != 0)=true:=by simpa using g
    clear g;go_wp2;refine bodyPost_ret (v:= .tuple #[.agg (Ab9 0 0 0 0),Aa Ab (Fq y)]) (by simp [results,results43,go_sem,z,B,C,D]) rfl ⟨Ga d.o a.o,?_⟩;exact(((i.o.setCell (Ae _) _).setCell (Ae _) _).setCell (Ae _) _).setCell (Ae _) _
theorem Vy(A:Option Addr)(n c:Nat)(l:List UInt8)(w:World)(hl:B4 w A n l)(hn:n≤9223372036854775807):
  Calls Ad 62 #[.slice A n c] w (Ab5 (.tuple #[.agg #[Aa Ab (Df l).1,Aa Ab (Df l).2.1,Aa Ab (Df l).2.2.1,Aa Ab (Df l).2.2.2],Aa Ab (Dq l)]) w):=by
 have q:=hl.1;subst q;by_cases h3:l.length<3
 ·have a:=Hd (Oy h3);have d:=Hd (Hk (by rw [Oy h3];decide));go_enter func62,ntmps62;go_wp2;refine bodyPost_ret (v:= .tuple #[.agg (Ab9 0 0 0 0),Aa Ab 210]) (by simp [results,results62,go_sem]) rfl ⟨Ga d.o a.o,?_⟩;exact(Af _ _).alloc (Ae _) _
 ·obtain⟨b,s,rfl,m,u⟩:=Ep hl (k:=l.length-1) (by omega);obtain⟨T,J,C,p,t⟩:=Ep hl (k:=l.length-2) (by omega);injection C with C
  injection C with e1 e2
  subst e1 e2;have F:l.getD (l.length-1) 0=l[l.length-1]:=by rw [Ay,Ai m];rfl
  have G:l.getD (l.length-2) 0=l[l.length-2]:=by rw [Ay,Ai p];rfl
  generalize l[l.length-1]=x at F u;generalize l[l.length-2]=y at G t;have Q:=x.toNat_lt;have j:=Hd F;have B:=Hd G;have i:=Hd u;have z:=Hd t;have u:(w.alloc (.cells (Ab9 0 0 0 0) 70)).cell? ⟨b,s+(l.length-1),none⟩=some (.int .u8 (x.toNat:Int)):=Ba ((Af _ _).alloc (Ae _) _) i.o;clear hl F G m p t;go_enter func62,ntmps62;go_wp2_with fail;go_at_call 95;refine(E4 _ _).mono ?_;rintro e S ⟨rfl,rfl⟩;cases hw:Br (x.toNat:Int) with
  |false=>
   have a:=Hd (Oz j.o hw);have d:=Hd (Hk (by rw [Oz j.o hw];decide));clear hw;go_wp2;refine bodyPost_ret (v:= .tuple #[.agg (Ab9 0 0 0 0),Aa Ab 210]) (by simp [results,results62,go_sem]) rfl ⟨Ga d.o a.o,?_⟩;exact(Af _ _).alloc (Ae _) _
  |true=>
   have I:=Hd hw;have h:1≤x.toNat∧x.toNat≤8:=by have:=B6.1 hw;omega
   have O:=h.1;have P:=h.2;have t:(w.alloc (.cells (Ab9 0 0 0 0) 70)).cell? ⟨b,s+(l.length-2),none⟩=some (.int .u8 (y.toNat:Int)):=Ba ((Af _ _).alloc (Ae _) _) z.o;clear hw h;go_wp2_with fail;go_at_call 96;refine(Rx y _).mono ?_;rintro e S ⟨rfl,rfl⟩;have D:=Af (w.alloc (.cells (Ab9 0 0 0 0) 70)).heap.size (w.alloc (.cells (Ab9 0 0 0 0) 70));have K:=Hd (B5 ((Af w.heap.size w).alloc (Ae _) _) D);have H:=Hd ((Bb.new w 70 (Ab9 0 0 0 0)).pure D);obtain ⟨U,V,W,X⟩:=H.o.c4;obtain ⟨Y,Z,f2,f3⟩:=H.o.f4;have u:=Ba K.o i.o;clear t D;by_cases g:Fq y=0
   ·have f:=Hd (Xc h3 j.o B.o I.o g);rw [g];clear g;by_cases M:(l.length:Int)-2-x.toNat<0
    ·have a:=Hd (show Dq l=210 by rw [f.o,if_pos (.inl M)]);have d:=Hd (Hk (by rw [a.o];decide));go_wp2;refine bodyPost_ret (v:= .tuple #[.agg (Ab9 0 0 0 0),Aa Ab 210]) (by simp [results,results62,go_sem]) rfl ⟨Ga d.o a.o,?_⟩
     first|exact(Af _ _).alloc (Ae _) _|exact((Af _ _).alloc (Ae _) _).alloc (by simp) _
    ·have N:0≤(l.length:Int)-2-x.toNat:=by omega
     have R:(x.toNat==0)=false:=by simp;omega
     by_cases r:((l.length:Int)-2-x.toNat) % x.toNat=0
     ·have a:=Hd (show Dq l=0 by rw [f.o,if_neg (by omega)]);have d:=Hd (Qh j.o B.o a.o);have E:(((l.length:Int)-2) % (x.toNat:Int) != 0)=false:=by simpa using r
      clear r;go_wp2;refine bodyPost_ret (v:= .tuple #[.agg #[Aa Ab ((l.length:Int)-2-x.toNat),Aa Ab ((x.toNat:Nat):Int),Aa Ab (I7 y),Aa Ab (I8 y)],Aa Ab 0]) (by simp [results,results62,go_sem]) rfl ⟨Ga d.o a.o,?_⟩
      first|exact(Af _ _).alloc (Ae _) _|exact((Af _ _).alloc (Ae _) _).alloc (by simp) _
     ·have a:=Hd (show Dq l=210 by rw [f.o,if_pos (.inr r)]);have d:=Hd (Hk (by rw [a.o];decide));have E:(((l.length:Int)-2) % (x.toNat:Int) != 0)=true:=by simpa using r
      clear r;go_wp2;refine bodyPost_ret (v:= .tuple #[.agg (Ab9 0 0 0 0),Aa Ab 210]) (by simp [results,results62,go_sem]) rfl ⟨Ga d.o a.o,?_⟩
      first|exact(Af _ _).alloc (Ae _) _|exact((Af _ _).alloc (Ae _) _).alloc (by simp) _
   ·have a:=Hd (Xb h3 j.o B.o I.o g);have d:=Hd (Hk (by rw [a.o];exact g));have L:(Fq y != 0)=true:=by simpa using g
    clear g;go_wp2;refine bodyPost_ret (v:= .tuple #[.agg (Ab9 0 0 0 0),Aa Ab (Fq y)]) (by simp [results,results62,go_sem]) rfl ⟨Ga d.o a.o,?_⟩
    first|exact(Af _ _).alloc (Ae _) _|exact((Af _ _).alloc (Ae _) _).alloc (by simp) _
end Go.Proofs.YtejpbijeifjdeaaGreat
namespace Go.Acc
open Go.RowKit
section
variable {P:Program} {mt kt et:TypeId}
theorem O2(hu:P.underlying mt=some (.map kt et))(hk:P.underlying kt=some (.int .i64))(W:World)(es:Array MapEntry)(c g:Nat)(x:Int)(v:Value)(hg:g=W.heap.size)
  (hn:Instr.findNow (.int .i64) (Aa Ab x) es.toList 0=some none):
  (As mt (.map (some g)) (.int .i64 x) v).run P (W.alloc (.map es c))= .ok () (W.alloc (.map (es.push { key:= .int .i64 x,val:=v,born:=c}) (c+1))):=by
 subst hg;have a:(W.alloc (.map es c)).heap[W.heap.size]?=some (.map es c):=heap_alloc_new W _;have e:∀o o':Obj,(W.heap.push o).setIfInBounds W.heap.size o'=W.heap.push o':=by
  intro o o';apply Array.ext_getElem?;intro i;rw [Array.getElem?_setIfInBounds,Array.getElem?_push,Array.getElem?_push];by_cases h:W.heap.size=i
  ·subst h;simp
  ·rw [if_neg h,if_neg (fun e=>h e.symm)];rw [if_neg (fun e=>h e.symm)]
 have h1:(Instr.checkKey false 10000 kt (.int .i64 x)).run P (W.alloc (.map es c))= .ok () (W.alloc (.map es c)):=MapKept.run_checkKey (n:=9999) (k:= .int .i64 x) hk rfl false;have h2:(Instr.findKey kt (.int .i64 x) es.toList).run P (W.alloc (.map es c))= .ok none (W.alloc (.map es c)):=MapKept.run_findKey hk hn;have h3:=MapKept.run_setObj_map (P:=P) (.map (es.push { key:= .int .i64 x,val:=v,born:=c}) (c+1)) a;simp only [As,Sem.run_bind,run_underlying hu,Result.andThen_ok,MapKept.run_getObj_map a,h1,h2,h3];simp only [World.alloc,e]
theorem Nk(hu:P.underlying mt=some (.map kt et))(hk:P.underlying kt=some (.int .i64))(z:Value)(hz:∀W,(zeroValue et).run P W= .ok z W)(W:World)(es:Array MapEntry)(c g:Nat)(x:Int)(b:Bool)(r:Option (Nat×Value))
  (hb:W.heap[g]?=some (.map es c)) (hn:Instr.findNow (.int .i64) (Aa Ab x) es.toList 0=some r):
  (Instr.lookup mt (.map (some g)) (Aa Ab x) b).run P W= .ok (if b then .tuple #[(r.map (·.2)).getD z,.bool r.isSome] else(r.map (·.2)).getD z) W:=by
 have h1:(Instr.checkKey es.isEmpty 10000 kt (Aa Ab x)).run P W= .ok () W:=MapKept.run_checkKey (n:=9999) (k:= Aa Ab x) hk rfl _;have h2:(Instr.findKey kt (Aa Ab x) es.toList).run P W= .ok r W:=MapKept.run_findKey hk hn;cases r with
 |none=>
  simp only [Instr.lookup,Sem.run_bind,run_underlying hu,Result.andThen_ok,MapKept.run_getObj_map hb,h1,h2,hz,Sem.run_pure];rfl
 |some p=>
  obtain⟨i,u⟩:=p;simp only [Instr.lookup,Sem.run_bind,run_underlying hu,Result.andThen_ok,MapKept.run_getObj_map hb,h1,h2,Sem.run_pure];rfl
end
end Go.Acc
namespace Go.Proofs.YtejpbijeifjdeaaGreat
open Go.RowKit Go.Acc
variable {w w':World}{g vb:Nat}{t:TypeId}{p q t':Value}{a c d fl:Int}{l:List UInt8}{x y:UInt8}{M:Bp}{o:Nat→Nat}{b:Bd}{v:Bv}
def cH:Array MapEntry:=#[⟨Aa Ab 0,.func (.func 305) #[] #[],0⟩,⟨Aa Ab 26,.func (.func 306) #[] #[],1⟩,⟨Aa Ab 1,.func (.func 308) #[] #[],2⟩,⟨Aa Ab 6,.func (.func 308) #[] #[],3⟩,⟨Aa Ab 2,.func (.func 307) #[] #[],4⟩,⟨Aa Ab 7,.func (.func 307) #[] #[],5⟩]
def cI(t:Int):Option Value:=if t=0 then some (.func (.func 305) #[] #[]) else if t=26 then some (.func (.func 306) #[] #[]) else if t=1∨t=6 then some (.func (.func 308) #[] #[]) else if t=2∨t=7 then some (.func (.func 307) #[] #[]) else none
theorem xA(t:Int):∃r,Instr.findNow (.int .i64) (Aa Ab t) cH.toList 0=some r∧r.map (·.2)=cI t:=by
 by_cases h0:t=0
 ·subst h0;exact⟨_,rfl,rfl⟩
 by_cases h1:t=26
 ·subst h1;exact⟨_,rfl,rfl⟩
 by_cases h2:t=1
 ·subst h2;exact⟨_,rfl,rfl⟩
 by_cases h3:t=6
 ·subst h3;exact⟨_,rfl,rfl⟩
 by_cases a:t=2
 ·subst a;exact⟨_,rfl,rfl⟩
 by_cases b:t=7
 ·subst b;exact⟨_,rfl,rfl⟩
 refine⟨none,?_,?_⟩
 ·have c:(t==0)=false:=by simpa using h0
  have d:(t==26)=false:=by simpa using h1
  have e:(t==1)=false:=by simpa using h2
  have f:(t==6)=false:=by simpa using h3
  have g:(t==2)=false:=by simpa using a
  have h:(t==7)=false:=by simpa using b
  simp only [cH,Instr.findNow,Instr.sameNow,if_true,c,d,e,f,g,h]
 ·simp [cI,h0,h1,h2,h3,a,b]
def RdW(w:World)(e:Ending)(w':World):Prop:=∃g,e= .returned (.map (some g))∧w'.heap[g]?=some (.map cH 6)∧Below w.heap.size w w'
theorem cL(w:World):Calls Ad 250 #[] w (RdW w):=by
 have h0:=run_makeMap (P:=Ad) 276;have h1:∀(W:World) (es:Array MapEntry) (c:Nat) (x:Int) (v:Value),Instr.findNow (.int .i64) (.int .i64 x) es.toList 0=some none→(As 276 (.map (some W.heap.size)) (.int .i64 x) v).run Ad (W.alloc (.map es c))= .ok () (W.alloc (.map (es.push { key:= .int .i64 x,val:=v,born:=c}) (c+1))):=
  fun W es c x v h=>O2 underlying276 underlying3 W es c _ x v rfl h
 have a:∀W:World,(As 276 (.map (some W.heap.size)) (.int .i64 0) (.func (.func 305) #[] #[])).run Ad (W.alloc (.map #[] 0))= .ok () (W.alloc (.map #[⟨.int .i64 0,.func (.func 305) #[] #[],0⟩] 1)):=fun W=>h1 W #[] 0 0 _ rfl
 have b:∀W:World,(As 276 (.map (some W.heap.size)) (.int .i64 26) (.func (.func 306) #[] #[])).run Ad (W.alloc (.map #[⟨.int .i64 0,.func (.func 305) #[] #[],0⟩] 1))= .ok () (W.alloc (.map #[⟨.int .i64 0,.func (.func 305) #[] #[],0⟩,⟨.int .i64 26,.func (.func 306) #[] #[],1⟩] 2)):=fun W=>h1 W #[⟨.int .i64 0,.func (.func 305) #[] #[],0⟩] 1 26 _ rfl
 have d:∀W:World,(As 276 (.map (some W.heap.size)) (.int .i64 1) (.func (.func 308) #[] #[])).run Ad (W.alloc (.map #[⟨.int .i64 0,.func (.func 305) #[] #[],0⟩,⟨.int .i64 26,.func (.func 306) #[] #[],1⟩] 2))= .ok () (W.alloc (.map #[⟨.int .i64 0,.func (.func 305) #[] #[],0⟩,⟨.int .i64 26,.func (.func 306) #[] #[],1⟩,⟨.int .i64 1,.func (.func 308) #[] #[],2⟩] 3)):=fun W=>h1 W #[⟨.int .i64 0,.func (.func 305) #[] #[],0⟩,⟨.int .i64 26,.func (.func 306) #[] #[],1⟩] 2 1 _ rfl
 have e:∀W:World,(As 276 (.map (some W.heap.size)) (.int .i64 6) (.func (.func 308) #[] #[])).run Ad (W.alloc (.map #[⟨.int .i64 0,.func (.func 305) #[] #[],0⟩,⟨.int .i64 26,.func (.func 306) #[] #[],1⟩,⟨.int .i64 1,.func (.func 308) #[] #[],2⟩] 3))= .ok () (W.alloc (.map #[⟨.int .i64 0,.func (.func 305) #[] #[],0⟩,⟨.int .i64 26,.func (.func 306) #[] #[],1⟩,⟨.int .i64 1,.func (.func 308) #[] #[],2⟩,⟨.int .i64 6,.func (.func 308) #[] #[],3⟩] 4)):=fun W=>h1 W #[⟨.int .i64 0,.func (.func 305) #[] #[],0⟩,⟨.int .i64 26,.func (.func 306) #[] #[],1⟩,⟨.int .i64 1,.func (.func 308) #[] #[],2⟩] 3 6 _ rfl
 have f:∀W:World,(As 276 (.map (some W.heap.size)) (.int .i64 2) (.func (.func 307) #[] #[])).run Ad (W.alloc (.map #[⟨.int .i64 0,.func (.func 305) #[] #[],0⟩,⟨.int .i64 26,.func (.func 306) #[] #[],1⟩,⟨.int .i64 1,.func (.func 308) #[] #[],2⟩,⟨.int .i64 6,.func (.func 308) #[] #[],3⟩] 4))= .ok () (W.alloc (.map #[⟨.int .i64 0,.func (.func 305) #[] #[],0⟩,⟨.int .i64 26,.func (.func 306) #[] #[],1⟩,⟨.int .i64 1,.func (.func 308) #[] #[],2⟩,⟨.int .i64 6,.func (.func 308) #[] #[],3⟩,⟨.int .i64 2,.func (.func 307) #[] #[],4⟩] 5)):=fun W=>h1 W #[⟨.int .i64 0,.func (.func 305) #[] #[],0⟩,⟨.int .i64 26,.func (.func 306) #[] #[],1⟩,⟨.int .i64 1,.func (.func 308) #[] #[],2⟩,⟨.int .i64 6,.func (.func 308) #[] #[],3⟩] 4 2 _ rfl
 have g:∀W:World,(As 276 (.map (some W.heap.size)) (.int .i64 7) (.func (.func 307) #[] #[])).run Ad (W.alloc (.map #[⟨.int .i64 0,.func (.func 305) #[] #[],0⟩,⟨.int .i64 26,.func (.func 306) #[] #[],1⟩,⟨.int .i64 1,.func (.func 308) #[] #[],2⟩,⟨.int .i64 6,.func (.func 308) #[] #[],3⟩,⟨.int .i64 2,.func (.func 307) #[] #[],4⟩] 5))= .ok () (W.alloc (.map #[⟨.int .i64 0,.func (.func 305) #[] #[],0⟩,⟨.int .i64 26,.func (.func 306) #[] #[],1⟩,⟨.int .i64 1,.func (.func 308) #[] #[],2⟩,⟨.int .i64 6,.func (.func 308) #[] #[],3⟩,⟨.int .i64 2,.func (.func 307) #[] #[],4⟩,⟨.int .i64 7,.func (.func 307) #[] #[],5⟩] 6)):=fun W=>h1 W #[⟨.int .i64 0,.func (.func 305) #[] #[],0⟩,⟨.int .i64 26,.func (.func 306) #[] #[],1⟩,⟨.int .i64 1,.func (.func 308) #[] #[],2⟩,⟨.int .i64 6,.func (.func 308) #[] #[],3⟩,⟨.int .i64 2,.func (.func 307) #[] #[],4⟩] 5 7 _ rfl
 clear h1;go_enter func250,ntmps250;go_wp2;go_ret;exact⟨_,rfl,heap_alloc_new w _,(Af _ _).alloc (Ae _) _⟩
def Wy:Array MapEntry:=#[⟨Aa Ab 1,Aa Ab 0,0⟩,⟨Aa Ab 2,Aa Ab 1,1⟩,⟨Aa Ab 4,Aa Ab 2,2⟩,⟨Aa Ab 8,Aa Ab 3,3⟩]
theorem wV{y:Nat}(h:Br (y:Int)=true):∃i,Instr.findNow (.int .i64) (Aa Ab (y:Int)) Wy.toList 0=some (some (i,Aa Ab (bCode y:Int))):=by
 rcases Dl h with rfl|rfl|rfl|rfl <;>exact⟨_,rfl⟩
theorem Ru(t y:Nat)(w:World)(ht:Ch (t:Int)=true)(hy:Br (y:Int)=true):
  Calls Ad 136 #[Aa Ab (t:Int),Aa Ab (y:Int)] w (Ab5 (.tuple #[.int .u8 ((Aq (4*t+bCode y)).toNat:Int),Aa Ab 0]) w):=by
 have h0:=run_makeMap (P:=Ad) 184;have h1:∀(W:World) (es:Array MapEntry) (c:Nat) (x:Int) (v:Value),Instr.findNow (.int .i64) (.int .i64 x) es.toList 0=some none→(As 184 (.map (some W.heap.size)) (.int .i64 x) v).run Ad (W.alloc (.map es c))= .ok () (W.alloc (.map (es.push { key:= .int .i64 x,val:=v,born:=c}) (c+1))):=
  fun W es c x v h=>O2 underlying184 underlying3 W es c _ x v rfl h
 have q:∀W:World,(As 184 (.map (some W.heap.size)) (.int .i64 1) (.int .i64 0)).run Ad (W.alloc (.map #[] 0))= .ok () (W.alloc (.map #[⟨.int .i64 1,.int .i64 0,0⟩] 1)):=fun W=>h1 W #[] 0 1 _ rfl
 have r:∀W:World,(As 184 (.map (some W.heap.size)) (.int .i64 2) (.int .i64 1)).run Ad (W.alloc (.map #[⟨.int .i64 1,.int .i64 0,0⟩] 1))= .ok () (W.alloc (.map #[⟨.int .i64 1,.int .i64 0,0⟩,⟨.int .i64 2,.int .i64 1,1⟩] 2)):=fun W=>h1 W _ 1 2 _ rfl
 have s:∀W:World,(As 184 (.map (some W.heap.size)) (.int .i64 4) (.int .i64 2)).run Ad (W.alloc (.map #[⟨.int .i64 1,.int .i64 0,0⟩,⟨.int .i64 2,.int .i64 1,1⟩] 2))= .ok () (W.alloc (.map #[⟨.int .i64 1,.int .i64 0,0⟩,⟨.int .i64 2,.int .i64 1,1⟩,⟨.int .i64 4,.int .i64 2,2⟩] 3)):=fun W=>h1 W _ 2 4 _ rfl
 have u:∀W:World,(As 184 (.map (some W.heap.size)) (.int .i64 8) (.int .i64 3)).run Ad (W.alloc (.map #[⟨.int .i64 1,.int .i64 0,0⟩,⟨.int .i64 2,.int .i64 1,1⟩,⟨.int .i64 4,.int .i64 2,2⟩] 3))= .ok () (W.alloc (.map Wy 4)):=fun W=>h1 W _ 3 8 _ rfl
 obtain⟨i,f⟩:=wV hy;have m:∀W:World,(Instr.lookup 184 (.map (some W.heap.size)) (Aa Ab (y:Int)) true).run Ad (W.alloc (.map Wy 4))= .ok (.tuple #[Aa Ab (bCode y:Int),.bool true]) (W.alloc (.map Wy 4)):=fun W=>Nk underlying184 underlying3 (Aa Ab 0) (fun W=>zeroValue3 W) (W.alloc (.map Wy 4)) Wy 4 W.heap.size y true _ (heap_alloc_new W _) f
 have k:=Hd ht;have g:t≤36:=by have:=Ez.1 (Hv ht);omega
 obtain⟨c,a⟩:∃c,bCode y=c:=⟨_,rfl⟩;have l:c≤3:=by rw [←a];unfold bCode;(repeat' split) <;>omega
 rw [a] at m⊢;have j:=Hd (show(4*(t:Int)+c)=((Aq (4*t+c)).toNat:Int) by
  rw [UInt8.toNat_ofNat'];show(4*(t:Int)+c)=(((4*t+c) % 256:Nat):Int);omega)
 have n:IntKind.i64.wrap (4*(t:Int))=4*(t:Int):=by rw [IntKind.wrap_i64];omega
 have p:IntKind.i64.wrap (4*(t:Int)+c)=4*(t:Int)+c:=by rw [IntKind.wrap_i64];omega
 clear h1 f hy ht a;go_enter func136,ntmps136;go_wp2_with fail;go_at_call 86;refine(Fi (t:Int) _).mono ?_;rw [k.o];rintro e z ⟨rfl,d⟩;have b:=Hd d;clear d;go_wp2_with fail;go_ret2;exact⟨pD j.o,b.o.alloc b.o.size _⟩
theorem rR(x:Int)(h:BM M fl w o b):Calls Ad 131 #[Aca M.β,Aa Ab x] w fun e w'=>e= .returned (.tuple #[])∧To (fun i=>i=2) w o w' o:=by
 have a:=Hd h.head.own;obtain⟨c,d,f,g,j⟩:=h.head.cells;clear h;go_enter func131,ntmps131;go_wp2;go_end0;refine⟨rfl,To.of_fr0 (Fr.setCell (S:=fun k=>k=M.β) (Fr.refl _ w) (fun _=>rfl) _) ?_⟩;rintro k _ rfl;exact a.o
structure iC(l:List UInt8)(v:Bv)(y:Nat):Prop where
 legal:Ch v.t=true
 own:Br (v.w:Int)=true
 ly:leastW (Dz v l.length 0)=y
 w:Br (y:Int)=true
 fit:Ed y (Dc y (Bn y l).length v)=true
 lt:((Dc y (Bn y l).length v:Nat):Int)<18446744073709551616
 le:inl v.t=false→v.n≤(Bn y l).length
 len:l.length+20≤1048576
def Abg(w:World)(o:Nat→Nat)(m:List UInt8)(e:Ending)(w':World):Prop:=
 ∃A n c,e= .returned (.tuple #[.slice A n c,Aa Ab 0])∧Gp w' w.heap.size A n c m∧∃o',To Dg w o w' o'
theorem zT(v:Bv)(a y:Nat)(w:World)(ha2:a≤1048576)(hy:leastW (Dz v a 0)=y):
  Calls Ad 132 #[.agg #[Aa Ab (v.t:Int),Aa Ab (v.w:Int),Aa Ac (v.n:Int)],Aa Ab (a:Int),Aa Ab 0] w (Ab5 (Aa Ab (y:Int)) w):=by
 subst hy;exact sP v a 0 w ha2 (by omega)
theorem qG(W:World)(t:UInt8)(y:Nat)(hy:y≤8):B4 (W.alloc (.cells #[.int .u8 (t.toNat:Int),.int .u8 (y:Int)] 5)) (some ⟨W.heap.size,0,none⟩) 2 [t,Aq y]:=by
 refine⟨rfl,fun j u hu=>⟨_,_,rfl,?_⟩⟩;rw [Nat.zero_add,(Bb.new W _ _).cell j];have e:((Aq y).toNat:Int)=y:=by rw [UInt8.toNat_ofNat'];omega
 have a: [Value.int .u8 (t.toNat:Int),.int .u8 ((Aq y).toNat:Int)][j]?=some u:=hu;rw [e] at a;simpa using a
theorem Ox(W:World)(s:List UInt8):Fm (W.alloc (.cells #[.string ⟨s.toArray⟩] 9)) (some ⟨W.heap.size,0,none⟩) 1 [s]:=by
 refine⟨rfl,fun j u hu=>⟨_,_,rfl,?_⟩⟩;rw [Nat.zero_add,(Bb.new W _ _).cell j];simpa [Lz] using hu
structure Js(M:Bp)(fl:Int)(b:Bd)(v:Bv)(vb:Nat)(w:World)(o:Nat→Nat):Prop where
 m:BM M fl w o b
 x:Bb w vb 169 #[Aa Ab (v.t:Int),Aa Ab (v.w:Int),Aa Ac (v.n:Int)]
 ox:o vb=0
theorem Js.pure(h:Js M fl b v vb w o)(hb:Below w.heap.size w w'):Js M fl b v vb w' o:=⟨h.m.pure hb,h.x.pure hb,h.ox⟩
theorem Js.fresh(h:Js M fl b v vb w o)(hb:Below w.heap.size w w'):Js M fl b v vb w' (Bl o w.heap.size 0):=⟨h.m.fresh hb 0,h.x.pure hb,by rw [Bs h.x.lt];exact h.ox⟩
theorem Js.drew(h:Js M fl b v vb w o):Js M fl b v vb w.drew o:=h.pure (Af _ _).drew
theorem Js.buf_{o':Nat→Nat}(h:Js M fl b v vb w o)(ht:To (fun i=>i=1) w o w' o')(hb:C2 w' o' M.bb l):Js M fl { b with b:=l} v vb w' o':=
 ⟨h.m.buf_ ht hb,h.x.to_ ht (by rw [h.ox];omega),by rw [ht.ow _ h.x.lt];exact h.ox⟩
theorem Js.cells(h:Js M fl b v vb w o):
  w.cell? ⟨vb,0,none⟩=some (Aa Ab (v.t:Int))∧w.cell? ⟨vb,1,none⟩=some (Aa Ab (v.w:Int))∧w.cell? ⟨vb,2,none⟩=some (Aa Ac (v.n:Int))∧w.cell? ⟨M.β,0,none⟩=some (Aca M.bb):=
 ⟨h.x.cell 0,h.x.cell 1,h.x.cell 2,h.m.head.cells.1⟩
theorem eE(M:Bp)(fl:Int)(b:Bd)(v:Bv)(y:Nat)(w:World)(o:Nat→Nat)(h:BM M fl w o b)(hs:b.s=[v])(hf:iC b.b v y):
  Calls Ad 71 #[Aca M.β] w (Abg w o (Bn y b.b++Bi y (Dc y (Bn y b.b).length v)++ [D2 y v,Aq y])):=by
 have HM:=Hd h;have z:=Hd hf;have HS:=Hd hs;obtain⟨b0,b1,b2,b9,f2⟩:=h.head.cells;have HK:=Hd (show(0:Nat)≤b.s.length from Nat.zero_le _);obtain⟨a,ha⟩:∃a,b.b.length=a:=⟨_,rfl⟩;have HA:=Hd ha;have bi:=Hd (show a≤1048576 by have:=hf.len;omega);have bn:=Hd (show leastW (Dz v a 0)=y by rw [←ha];exact hf.ly);have ao:=Hd (show b.b.length+7≤1048576 by have:=hf.len;omega);clear h hs hf f2 ha;go_enter func71,ntmps71;go_wp2_with (go_at_call 129;refine(Pp M.β _ (by assumption)).mono ?_;rintro e w' ⟨rfl,rfl⟩);refine(cT M.sb 0 b.s _ o HM.o.stk HK.o).mono ?_;rw [List.drop_zero,HS.o];rintro e p ⟨A,n,c,rfl,hO,hB⟩;have hn:n=1:=by rw [←hO.1];rfl
 have am:=Hd (show Ef p A 1 [vv v] by have h:=hO.is;rw [hn] at h;exact h);have P:=Hd (HM.o.pure hB);obtain⟨d0,d1,d2,d9,f2⟩:=P.o.head.cells;have ak:=Hd hB;subst hn;obtain⟨g,ai,rfl,hk,h0,h1,h2⟩:=nM am.o (Nat.zero_lt_one);simp only [Nat.zero_mul,Nat.add_zero] at h0 h1 h2;have v0:p.cell? ⟨g,ai,none⟩=some (Aa Ab (v.t:Int)):=h0;have v1:p.cell? ⟨g,ai+1,none⟩=some (Aa Ab (v.w:Int)):=h1;have v2:p.cell? ⟨g,ai+2,none⟩=some (Aa Ac (v.n:Int)):=h2;clear hO hB b0 b1 b2 b9 f2 d9 h0 h1 h2 hk;have V:Below p.heap.size p (p.alloc (.cells #[Aa Ab (v.t:Int),Aa Ab (v.w:Int),Aa Ac (v.n:Int)] 169)):=(Af _ _).alloc (Ae _) _;have l:=Hd (show Js M fl b v p.heap.size (p.alloc (.cells #[Aa Ab (v.t:Int),Aa Ab (v.w:Int),Aa Ac (v.n:Int)] 169)) (Bl o p.heap.size 0) from⟨P.o.fresh V 0,Bb.new _ _ _,Bo (Ae _)⟩);have R:=Hd (show To Dg w o (p.alloc (.cells #[Aa Ab (v.t:Int),Aa Ab (v.w:Int),Aa Ac (v.n:Int)] 169)) (Bl o p.heap.size 0) from To.from_pure ak.o (To.fresh _ V o 0));clear V;go_upto_region 9 with fail
 generalize p.alloc (.cells #[Aa Ab (v.t:Int),Aa Ab (v.w:Int),Aa Ac (v.n:Int)] 169)=W2 at l R⊢;generalize Bl o p.heap.size 0=o2 at l R;have cr:=Hd ak.o.size;generalize p.heap.size=vb at l⊢;clear am P d0 d1 d2 v0 v1 v2;obtain⟨i,j,k,d⟩:=l.o.cells;go_region_held3 (fun w'=>w'.cell? ⟨vb,0,none⟩=some (Aa Ab (v.t:Int))∧w'.cell? ⟨vb,1,none⟩=some (Aa Ab (v.w:Int))∧w'.cell? ⟨vb,2,none⟩=some (Aa Ac (v.n:Int))∧w'.cell? ⟨M.β,0,none⟩=some (Aca M.bb)) (first|with_reducible exact⟨i,j,k,d⟩|with_reducible exact⟨Bc i,Bc j,Bc k,Bc d⟩|with_reducible exact⟨Ih _ i,Ih _ j,Ih _ k,Ih _ d⟩|with_reducible exact⟨y0,y1,y2,y3⟩) (first|(go_at_call 133;(with_reducible refine(Dt a l.o.drew.m.buf HA.o).mono ?_);rintro e w' ⟨rfl,rfl⟩)|(go_at_call 132;(with_reducible refine(zT v a y _ bi.o bn.o).mono ?_);rintro e W3 ⟨rfl,r⟩;have S:=Hd (l.o.drew.pure r);obtain⟨y0,y1,y2,y3⟩:=S.o.cells;have bu:=Hd (R.o.trans (To.pure Dg r o2).from_drew);clear r));clear i j k d l;go_wp2_with fail;go_at_call 134;refine(Hh M.bb y b.b _ o2 S.o.m.buf z.o.w ao.o).mono ?_;rintro e W4 ⟨rfl,o4,a3,Z⟩;have az:=Hd (S.o.buf_ Z a3);have bv:=Hd (bu.o.trans (Z.mono fun _ h=>Ip h));obtain⟨i,j,k,d⟩:=az.o.cells;clear a3 Z y0 y1 y2 y3;go_wp2_with fail;go_at_call 78;refine(Cm (v.t:Int) _).mono ?_;obtain⟨iv,ab⟩:∃x,Bt (v.t:Int)=x:=⟨_,rfl⟩;have an:=Hd ab;rw [ab];clear ab;rintro e W5 ⟨rfl,r⟩;have T:=Hd (az.o.pure r);have bw:=Hd (bv.o.trans (To.pure Dg r o4));clear r i j k d;obtain⟨i,j,k,d⟩:=T.o.cells;obtain⟨m,hm⟩:∃m,(Bn y b.b).length=m:=⟨_,rfl⟩;have H:=Hd hm;obtain⟨q,hq⟩:∃q,Dc y m v=q:=⟨_,rfl⟩;have HQ:=Hd hq;have bj:=Hd (show Ed y q=true by rw [←hq,←hm];exact z.o.fit);have bm:=Hd (show(q:Int)<18446744073709551616 by rw [←hq,←hm];exact z.o.lt);clear hm hq;obtain⟨ow,a7⟩:∃x,(if inl v.t=true then y else v.w)=x:=⟨_,rfl⟩;have I:=Hd a7;clear a7;go_upto_if 65 with fail
 go_cut [8,9] (fun u8 u9 wx=>∃wy,wy=wx∧u8= Aa Ab (ow:Int)∧u9= Aa Ac (q:Int)∧Below W5.heap.size W5 wx)
 case first=>
  cases iv with
  |true=>
   have u:inl v.t=true:=an.o;have bs:=Hd (show v.n % 2^(8*y)=q by rw [←HQ.o];unfold Dc;rw [if_pos u]);have Q:=Hd (show ow=y by rw [←I.o,if_pos u]);clear u;go_wp2_with (go_at_call 135;(refine(oI v.n y q _ z.o.w bs.o).mono ?_);rintro e w' ⟨rfl,rfl⟩);go_meet;exact⟨_,rfl,by rw [Q.o],rfl,Af _ _⟩
  |false=>
   have u:inl v.t=false:=an.o;have ae:¬inl v.t=true:=by rw [u];decide
   have c4:v.n≤m:=by rw [←H.o];exact z.o.le u
   have c5:m≤1048576:=by
    have h1:=Di b.b (show y≤8 by have h2:=Dl z.o.w;omega);have h2:=ao.o;have h3:=H.o;omega
   have cd:m-v.n=q:=by rw [←HQ.o];unfold Dc;rw [if_neg ae]
   have Q:=Hd (show ow=v.w by rw [←I.o,if_neg ae]);have e1:IntKind.u64.wrap (m:Int)=m:=Ce _ (by omega);have e2:(m:Int)-(v.n:Int)=q:=by omega
   have e3:IntKind.u64.wrap (q:Int)=q:=Ce _ (by omega);clear u ae cd;go_wp2_with fail;go_region_held3 (fun w'=>w'.cell? ⟨vb,0,none⟩=some (Aa Ab (v.t:Int))∧w'.cell? ⟨vb,1,none⟩=some (Aa Ab (v.w:Int))∧w'.cell? ⟨vb,2,none⟩=some (Aa Ac (v.n:Int))∧w'.cell? ⟨M.β,0,none⟩=some (Aca M.bb)) (first|with_reducible exact⟨i,j,k,d⟩|with_reducible exact⟨Bc i,Bc j,Bc k,Bc d⟩|with_reducible exact⟨Ih _ i,Ih _ j,Ih _ k,Ih _ d⟩|with_reducible exact⟨y0,y1,y2,y3⟩) (first|(go_at_call 133;(with_reducible refine(Dt m T.o.drew.m.buf H.o).mono ?_);rintro e w' ⟨rfl,rfl⟩));go_wp2_with fail;go_meet;exact⟨_,rfl,by rw [Q.o],rfl,(Af _ _).drew⟩
 case rest=>
 obtain⟨w6,rfl,rfl,rfl,r⟩:=hcut;have a0:=Hd (T.o.pure r);have bx:=Hd (bw.o.trans (To.pure Dg r o4));clear r i j k d;obtain⟨i,j,k,d⟩:=a0.o.cells;have bq:=Hd (show Br (ow:Int)=true by rw [←I.o];split;exact z.o.w;exact z.o.own);obtain⟨tb,ag⟩:∃x,Aq (4*v.t+bCode ow)=x:=⟨_,rfl⟩;have b5:=Hd ag;have af:=Ru v.t ow w6 z.o.legal bq.o;rw [ag] at af;have bp:=Hd af;clear ag af;go_wp2_with fail;go_at_call 136;refine bp.o.mono ?_;rintro e W7 ⟨rfl,r⟩;have U:=Hd (a0.o.pure r);have bz:=Hd (bx.o.trans (To.pure Dg r o4));clear r i j k d;obtain⟨i,j,k,d⟩:=U.o.cells;have bl:=Hd (show(Bn y b.b).length+y≤1048576 by
  have h2:=Dl z.o.w;have h1:=Di b.b (show y≤8 by omega);have h3:=z.o.len;omega)
 go_wp2_with fail;go_at_call 137;refine(Eh M.bb y q (Bn y b.b) _ o4 U.o.m.buf z.o.w bj.o bm.o bl.o).mono ?_;rintro e B ⟨rfl,o8,a4,aa⟩;have a1:=Hd (U.o.buf_ aa a4);have b3:=Hd (bz.o.trans (aa.mono fun _ h=>Ip h));clear a4 aa i j k d;obtain⟨i,j,k,d⟩:=a1.o.cells;go_upto_region 17 with fail
 have a8:y≤8:=by have h2:=Dl z.o.w;omega
 have e8:IntKind.u8.wrap (y:Int)=y:=by show(y:Int) % 256=y;omega
 have X:=qG B tb y a8;have a5:=Im (c:=2) X;have a6:=Im (c:=2) (w:=(B.alloc (.cells #[.int .u8 (tb.toNat:Int),.int .u8 (y:Int)] 5)).drew) X;have W:Below B.heap.size B (((B.alloc (.cells #[.int .u8 (tb.toNat:Int),.int .u8 (y:Int)] 5)).alloc (.cells #[.string ⟨[tb,Aq y].toArray⟩] 9))).drew:=(Bq _ _ _).drew;have a2:=Hd (a1.o.fresh W);have b4:=Hd (b3.o.trans (To.fresh Dg W o8 0));have Y:=Ox (B.alloc (.cells #[.int .u8 (tb.toNat:Int),.int .u8 (y:Int)] 5)) [tb,Aq y];have eS:(B.alloc (.cells #[.int .u8 (tb.toNat:Int),.int .u8 (y:Int)] 5)).heap.size=B.heap.size+1:=by simp
 rw [eS] at Y;have bt:=Hd (show Fm (((B.alloc (.cells #[.int .u8 (tb.toNat:Int),.int .u8 (y:Int)] 5)).alloc (.cells #[.string ⟨[tb,Aq y].toArray⟩] 9))).drew (some ⟨B.heap.size+1,0,none⟩) 1 [[tb,Aq y]] from Y);have bo:=Hd (show ∀ad,(some ⟨B.heap.size+1,0,none⟩:Option Addr)=some ad→Bl o8 B.heap.size 0 ad.block≠1 from fun ad h=>by injection h with h;subst h;rw [Bo (by show B.heap.size≤B.heap.size+1;omega)];omega);have ap:=Hd (show(Bn y b.b++Bi y q).length+ [[tb,Aq y]].flatten.length≤1048576 by
  have h1:=Di b.b a8;have h3:=z.o.len;rw [Ak,B3];show _+2≤_;omega)
 have n0:=Nat.ne_of_lt (Bu i);have n3:=Nat.ne_of_lt (Bu d);simp only at n0 n3;clear X W Y eS;have z3:=Bm (.cells #[.int .u8 (tb.toNat:Int),.int .u8 (y:Int)] 5) d;have z4:=Bm (.cells #[.string ⟨[tb,Aq y].toArray⟩] 9) z3;go_region_with (first|(go_at_call 138;(with_reducible refine(G6 M.bb 1 _ _ [[tb,Aq y]] (Bn y b.b++Bi y q) _ _ a2.o.m.buf bt.o bo.o ap.o (by omega)).mono ?_);rintro e b6 ⟨rfl,ah,N,F⟩;have f:=Hd (a2.o.buf_ F N);have L:=Hd (b4.o.trans (F.mono fun _ h=>Ip h));clear N F))
 all_goals
  have f:=f;clear z3 z4 a5 a6 n0 n3;obtain⟨y0,y1,y2,y3⟩:=f.o.cells;have bk:=Hd (show(Bn y b.b++Bi y q++ [[tb,Aq y]].flatten).length≤1048576 by have:=ap.o;rw [Ak];omega);go_wp2_with fail;go_at_call 139;refine(dL M.bb _ _ ah f.o.m.buf bk.o).mono ?_;rintro e cs ⟨aj,ce,b7,rfl,E,D⟩;have ax:=Hd (f.o.m.fresh D 0);have au:=Hd (L.o.trans (To.fresh Dg D ah 0));have K:=Hd E;have J:=Hd (show Of (Bl ah b6.heap.size 0) aj 0 from fun ad h=>Bo (E.addr ad h).2.1);clear y0 y1 y2 y3 E D;go_wp2_with fail;go_at_call 131;refine(Ho ax.o).mono ?_;rintro e ct ⟨rfl,cf,O,C⟩;have ay:=Hd O;have av:=Hd (au.o.trans C);have aq:=Hd (K.o.to_ J.o C Co);have al:=Hd (J.o.to_ K.o C);clear O C;go_wp2_with fail;go_at_call 131;refine(rR 140 ay.o).mono ?_;rintro e cu ⟨rfl,G⟩;have aw:=Hd (av.o.trans (G.mono fun _ h=>by subst h;exact⟨by omega,by omega⟩));have ar:=Hd (aq.o.to_ al.o G (by omega));clear G;go_wp2_with fail;go_ret2;refine⟨aj,ce,b7,rfl,?_,cf,aw.o⟩;have h:=ar.o.rebase (B':=w.heap.size) L.o.size;have e:D2 y v=tb:=by unfold D2;rw [I.o,b5.o]
  rw [H.o,HQ.o,e];exact h
theorem Rw(w:World):
  Calls Ad 107 #[] w fun e w'=>∃b,e= .returned (Aca b)∧Bb w' b 220 #[.slice none 0 0,.slice none 0 0,.bool true]∧w.heap.size≤b∧Below w.heap.size w w':=by
 go_enter func107,ntmps107;go_wp2;go_ret;exact⟨_,rfl,Bb.new w _ _,Ae _,(Af _ _).alloc (Ae _) _⟩
theorem xJ(w:World):
  Calls Ad 106 #[] w fun e w'=>∃b,e= .returned (Aca b)∧Bb w' b 216 #[.slice none 0 0,.bool true]∧w.heap.size≤b∧Below w.heap.size w w':=by
 go_enter func106,ntmps106;go_wp2;go_ret;exact⟨_,rfl,Bb.new w _ _,Ae _,(Af _ _).alloc (Ae _) _⟩
def H7(o:Nat→Nat)(N bb sb kb tb lb mb β:Nat):Nat→Nat:=fun k=>if k<N then o k else if k=bb then 1 else if k=sb then 3 else if k=kb then 4 else if k=tb then 5 else if k=lb then 6 else if k=mb then 7 else if k=β then 2 else 0
theorem T8{i p:Nat}(h:Bb w p 220 #[.slice none 0 0,.slice none 0 0,.bool true])(ho:o p=i):Gx w o i p []:=
 ⟨none,none,0,0,0,[],[],h,Own.nil _ _,Own.nil _ _,Of.none_ _,Of.none_ _,ho,List.Pairwise.nil,fun _=>rfl,Ae _,fun a h=>by cases h⟩
theorem mB(fl:Int)(w:World)(o:Nat→Nat):
  Calls Ad 69 #[Aa Ab fl,Aa Ab 1048576] w fun e w'=>∃M o',e= .returned (Aca M.β)∧BM M fl w' o' Bd.new∧To (fun _=>False) w o w' o':=by
 have h0:=run_makeMap (P:=Ad) 143;go_enter func69,ntmps69;go_wp2_with fail;go_at_call 105;refine(lU _).mono ?_;rintro e Z ⟨c,rfl,l,u,b⟩;have HB:=Hd b;have i:=Hd l;have E:=Hd (And.intro u l.lt);clear b l u;go_wp2_with fail;go_at_call 106;refine(xJ _).mono ?_;rintro e w2 ⟨f,rfl,m,v,b⟩;replace HB:=Hd (A6 HB.o b);have j:=Hd m;replace i:=Hd (i.o.pure b);have F:=Hd (And.intro v m.lt);clear b m v;go_wp2_with fail;go_at_call 107;refine(Rw _).mono ?_;rintro e w3 ⟨d,rfl,n,x,b⟩;replace HB:=Hd (A6 HB.o b);have t:=Hd n;replace i:=Hd (i.o.pure b);replace j:=Hd (j.o.pure b);have G:=Hd (And.intro x n.lt);clear b n x;go_wp2_with fail;go_at_call 107;refine(Rw _).mono ?_;rintro e w4 ⟨g,rfl,p,y,b⟩;replace HB:=Hd (A6 HB.o b);have A:=Hd p;replace i:=Hd (i.o.pure b);replace j:=Hd (j.o.pure b);replace t:=Hd (t.o.pure b);have I:=Hd (And.intro y p.lt);clear b p y;go_wp2_with fail;go_at_call 107;refine(Rw _).mono ?_;rintro e r ⟨lb,rfl,q,z,b⟩;replace HB:=Hd (A6 HB.o b);have D:=Hd q;replace i:=Hd (i.o.pure b);replace j:=Hd (j.o.pure b);replace t:=Hd (t.o.pure b);replace A:=Hd (A.o.pure b);have J:=Hd (And.intro z q.lt);clear b q z;go_wp2_with fail;go_ret;have b:=Bq r (.map #[] 0) (.cells #[Aca c,Aca f,.int .i64 0,.int .i64 fl,Aca d,Aca g,Aca lb,.map (some r.heap.size),.slice none 0 0,.bool true] 148);have B:=World.ownsMap_made (H:=Unit) r Ad 26 (plainElem Ad 9);have C:=Cv r (.map #[] 0) 148 #[Aca c,Aca f,.int .i64 0,.int .i64 fl,Aca d,Aca g,Aca lb,.map (some r.heap.size),.slice none 0 0,.bool true];have U:=E.o;have V:=F.o;have W:=G.o;have X:=I.o;have Y:=J.o;obtain⟨N,hN⟩:∃N,r.heap.size=N:=⟨_,rfl⟩;have K:H7 o w.heap.size c f d g lb N (N+1) c=1:=by unfold H7;rw [if_neg (by omega),if_pos rfl]
 have L:H7 o w.heap.size c f d g lb N (N+1) f=3:=by unfold H7;rw [if_neg (by omega),if_neg (by omega),if_pos rfl]
 have O:H7 o w.heap.size c f d g lb N (N+1) d=4:=by unfold H7;rw [if_neg (by omega),if_neg (by omega),if_neg (by omega),if_pos rfl]
 have Q:H7 o w.heap.size c f d g lb N (N+1) g=5:=by unfold H7;rw [if_neg (by omega),if_neg (by omega),if_neg (by omega),if_neg (by omega),if_pos rfl]
 have R:H7 o w.heap.size c f d g lb N (N+1) lb=6:=by unfold H7;rw [if_neg (by omega),if_neg (by omega),if_neg (by omega),if_neg (by omega),if_neg (by omega),if_pos rfl]
 have S:H7 o w.heap.size c f d g lb N (N+1) N=7:=by unfold H7;rw [if_neg (by omega),if_neg (by omega),if_neg (by omega),if_neg (by omega),if_neg (by omega),if_neg (by omega),if_pos rfl]
 have T:H7 o w.heap.size c f d g lb N (N+1) (N+1)=2:=by unfold H7;rw [if_neg (by omega),if_neg (by omega),if_neg (by omega),if_neg (by omega),if_neg (by omega),if_neg (by omega),if_neg (by omega),if_pos rfl]
 rw [hN] at b B C⊢;refine⟨⟨N+1,c,f,d,g,lb,N⟩,H7 o w.heap.size c f d g lb N (N+1),rfl,⟨⟨none,0,0,C,Own.nil _ _,Of.none_ _,T⟩,⟨none,0,0,(i.o.alloc _).alloc _,Own.nil _ _,Of.none_ _,K⟩,⟨none,⟨none,0,0,(j.o.alloc _).alloc _,Own.nil _ _,rfl,by omega,Nat.zero_le _⟩,L,fun k h=>by cases h⟩,
  T8 ((t.o.alloc _).alloc _) O,T8 ((A.o.alloc _).alloc _) Q,T8 ((D.o.alloc _).alloc _) R,S,0,.map [],B.alloc _,Ae _,fun a s h=>by cases h⟩,⟨Fr.of_below (A6 HB.o (by rw [hN];exact b)) _,fun k hk=>if_pos hk⟩⟩
end Go.Proofs.YtejpbijeifjdeaaGreat
