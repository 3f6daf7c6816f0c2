/- Parts of the proof. -/
import Derived.Test.YtgbjodnegkbfoaaGreatQa35
import Derived.Lib.SlicesCompact
import Derived.Deep.LoopGhost
set_option maxHeartbeats 2000000
set_option maxRecDepth 100000
open Go.Value renaming int→Aa
open Go.IntKind renaming i64→Ab
open Nat renaming le_refl→Ath
open List renaming append_assoc→Ato
namespace Go.Proofs.YtgbjodnegkbfoaaGreat
open Go.RowKit Go.Acc
def Vc(x y z:Int):Int:=if x≠0 then x else if y≠0 then y else z
theorem Ap2(b:Nat)(x y z:Int)(w:World)(h0:w.cell? ⟨b,0,none⟩=some (Aa Ab x))(h1:w.cell? ⟨b,1,none⟩=some (Aa Ab y))(h2:w.cell? ⟨b,2,none⟩=some (Aa Ab z)):
  Calls Tryz.prog 64 #[.slice (some ⟨b,0,none⟩) 3 3] w fun e w'=>e= .returned (Aa Ab (Vc x y z))∧w=w':=by
 by_cases hx:x=0
 ·subst hx;by_cases hy:y=0
  ·subst hy;by_cases hz:z=0
   ·subst hz;go_enter Tryz.func64,Tryz.ntmps64;go_wp2;refine wp_loop_rounds 4 ?_
    repeat (rw [rounds_succ];go_wp2)
    all_goals
     go_ret;exact⟨rfl,rfl⟩
   ·have hz':(z != 0)=true:=by simpa using hz
    have e:Vc 0 0 z=z:=rfl;rw [e];clear hz e;go_enter Tryz.func64,Tryz.ntmps64;go_wp2;refine wp_loop_rounds 4 ?_
    repeat (rw [rounds_succ];go_wp2)
    all_goals
     go_ret;exact⟨rfl,rfl⟩
  ·have hy':(y != 0)=true:=by simpa using hy
   have e:Vc 0 y z=y:=by unfold Vc;rw [if_neg (by decide),if_pos hy]
   rw [e];clear hy e;go_enter Tryz.func64,Tryz.ntmps64;go_wp2;refine wp_loop_rounds 4 ?_
   repeat (rw [rounds_succ];go_wp2)
   all_goals
    go_ret;exact⟨rfl,rfl⟩
 ·have hx':(x != 0)=true:=by simpa using hx
  have e:Vc x y z=x:=by unfold Vc;rw [if_pos hx]
  rw [e];clear hx e;go_enter Tryz.func64,Tryz.ntmps64;go_wp2;refine wp_loop_rounds 4 ?_
  repeat (rw [rounds_succ];go_wp2)
  all_goals
   go_ret;exact⟨rfl,rfl⟩
theorem O4(x y:Int)(r:Int)(hr:Lib.compareInt x y=r)(w:World):Calls Tryz.prog 65 #[Aa Ab x,Aa Ab y] w fun e w'=>e= .returned (Aa Ab r)∧w=w':=by
 subst hr;have h:=AnyG.cmp_Compare_int Arb x y w;change Calls Tryz.prog 65 _ _ _ at h;exact h.mono fun _ _ ⟨he,hw⟩=>⟨he,hw.symm⟩
def Xf(x y:P3):Int:=Vc (Lib.compareInt x.1 y.1) (Lib.compareInt x.2.1 y.2.1) (Lib.compareInt x.2.2 y.2.2)
theorem Adp(a b c a' b' c':Int)(w:World):
  Calls Tryz.prog 63 #[.agg #[Aa Ab a,Aa Ab b,Aa Ab c],.agg #[Aa Ab a',Aa Ab b',Aa Ab c']] w fun e w'=>e= .returned (Aa Ab (Xf (a,b,c) (a',b',c')))∧∃q os,w'=Sort.grow (w.drewN q) os:=by
 obtain⟨r,hr⟩:∃r,Lib.compareInt a a'=r:=⟨_,rfl⟩;obtain⟨s,hs⟩:∃r,Lib.compareInt b b'=r:=⟨_,rfl⟩;obtain⟨t,ht⟩:∃r,Lib.compareInt c c'=r:=⟨_,rfl⟩;have e:Xf (a,b,c) (a',b',c')=Vc r s t:=by unfold Xf;simp only [hr,hs,ht]
 rw [e];have HR:=Hd hr;have HS:=Hd hs;have HT:=Hd ht;clear hr hs ht e;go_enter Tryz.func63,Tryz.ntmps63;go_upto_region 1 with fail
 have HX:=Hd ((Af.new w 49 #[Aa Ab a,Aa Ab b,Aa Ab c]).alloc (.cells #[Aa Ab a',Aa Ab b',Aa Ab c'] 49));have HY:=Hd (Af.new_ (w:=w.alloc (.cells #[Aa Ab a,Aa Ab b,Aa Ab c] 49)) (g:=w.heap.size+1) (by simp) 49 #[Aa Ab a',Aa Ab b',Aa Ab c']);have HG:=Hd (show ∃q os,(w.alloc (.cells #[Aa Ab a,Aa Ab b,Aa Ab c] 49)).alloc (.cells #[Aa Ab a',Aa Ab b',Aa Ab c'] 49)=Sort.grow (w.drewN q) os from⟨0,_,by rw [Sort.alloc_eq_grow,Sort.alloc_eq_grow,Sort.grow_grow];rfl⟩);generalize (w.alloc (.cells #[Aa Ab a,Aa Ab b,Aa Ab c] 49)).alloc (.cells #[Aa Ab a',Aa Ab b',Aa Ab c'] 49)=w1 at HX HY HG⊢;obtain ⟨x0,x1,x2⟩:=HX.o.c3;obtain ⟨y0,y1,y2⟩:=HY.o.c3;have z0:=Hd (show(w1.alloc (.cells #[Aa Ab r,Aa Ab s,Aa Ab t] 3)).drew.cell? ⟨w1.heap.size,0,none⟩=some (Aa Ab r) from(Af.new w1 3 _).cell 0);have z1:=Hd (show(w1.alloc (.cells #[Aa Ab r,Aa Ab s,Aa Ab t] 3)).drew.cell? ⟨w1.heap.size,1,none⟩=some (Aa Ab s) from(Af.new w1 3 _).cell 1);have z2:=Hd (show(w1.alloc (.cells #[Aa Ab r,Aa Ab s,Aa Ab t] 3)).drew.cell? ⟨w1.heap.size,2,none⟩=some (Aa Ab t) from(Af.new w1 3 _).cell 2);go_region_held3 (fun w'=>w'.cell? ⟨w.heap.size,0,none⟩=some (Aa Ab a)∧w'.cell? ⟨w.heap.size,1,none⟩=some (Aa Ab b)∧w'.cell? ⟨w.heap.size,2,none⟩=some (Aa Ab c)∧w'.cell? ⟨w.heap.size+1,0,none⟩=some (Aa Ab a')∧w'.cell? ⟨w.heap.size+1,1,none⟩=some (Aa Ab b')∧w'.cell? ⟨w.heap.size+1,2,none⟩=some (Aa Ab c'))
  (first|with_reducible exact⟨x0,x1,x2,y0,y1,y2⟩|with_reducible exact⟨B4 x0,B4 x1,B4 x2,B4 y0,B4 y1,B4 y2⟩|with_reducible exact⟨B4 (Iu _ x0),B4 (Iu _ x1),B4 (Iu _ x2),B4 (Iu _ y0),B4 (Iu _ y1),B4 (Iu _ y2)⟩)
  (first
   |(go_at_call 65;(first|(with_reducible refine(O4 a a' r HR.o _).mono ?_)|(with_reducible refine(O4 b b' s HS.o _).mono ?_)|(with_reducible refine(O4 c c' t HT.o _).mono ?_));rintro e w' ⟨rfl,rfl⟩)
   |(go_at_call 64;(with_reducible refine(Ap2 w1.heap.size r s t _ z0.o z1.o z2.o).mono ?_);rintro e w' ⟨rfl,rfl⟩))
 go_wp2_with fail;go_ret;obtain⟨q,os,hg⟩:=HG.o;rw [hg];exact⟨rfl,q+1,_,by rw [Sort.alloc_eq_grow,Sort.grow_grow];rfl⟩
end Go.Proofs.YtgbjodnegkbfoaaGreat
namespace Go.Proofs.YtgbjodnegkbfoaaGreat
open Go.RowKit Go.Acc Go.Sort
def Ih(x y:P3):Prop:=x.1<y.1∨(x.1=y.1∧(x.2.1<y.2.1∨(x.2.1=y.2.1∧x.2.2<y.2.2)))
instance (x y:P3):Decidable (Ih x y):=by unfold Ih;infer_instance
theorem Al8(a b:Int):(a<b∧Lib.compareInt a b= -1)∨(a=b∧Lib.compareInt a b=0)∨(b<a∧Lib.compareInt a b=1):=by
 unfold Lib.compareInt;by_cases h1:a<b
 ·simp [h1]
 ·by_cases h2:b<a
  ·simp [h1,h2]
  ·have:a=b:=by omega
   simp [this]
theorem U6(x y:P3):ltOf Xf x y=decide (Ih x y):=by
 unfold ltOf Xf Vc Ih;rcases Al8 x.1 y.1 with⟨h1,e1⟩|⟨h1,e1⟩|⟨h1,e1⟩ <;>rcases Al8 x.2.1 y.2.1 with⟨h2,e2⟩|⟨h2,e2⟩|⟨h2,e2⟩ <;>rcases Al8 x.2.2 y.2.2 with⟨h3,e3⟩|⟨h3,e3⟩|⟨h3,e3⟩ <;>rw [e1,e2,e3] <;>(apply decide_eq_decide.2;simp;omega)
theorem As9:SWO (ltOf Xf) where
 irrefl x:=by rw [U6];apply decide_eq_false;unfold Ih;omega
 trans x y z h1 h2:=by rw [U6] at *;have h1:=of_decide_eq_true h1;have h2:=of_decide_eq_true h2;apply decide_eq_true;unfold Ih at *;omega
 ntrans x y z h1 h2:=by rw [U6] at *;have h1:=of_decide_eq_false h1;have h2:=of_decide_eq_false h2;apply decide_eq_false;unfold Ih at *;omega
theorem Amw(x:P3):(pc x).length=3:=rfl
theorem As7(x:P3):∀v∈pc x,v.oneCell'=true:=Akk x
def Ahz(l:List P3):Prop:=∀(i j:Nat) (hi:i<l.length) (hj:j<l.length),i<j→¬Ih l[j] l[i]
theorem Ahc(B g n c:Nat)(l:List P3)(w:World)(h:Jf w B (some ⟨g,0,none⟩) n c l)(hn:n≤2147483648):
  Calls Tryz.prog 108 #[.slice (some ⟨g,0,none⟩) n c,.func (.func 63) #[] #[]] w fun e w'=>e= .returned (.tuple #[])∧∃m:List P3,m.Perm l∧Ahz m∧Jf w' B (some ⟨g,0,none⟩) n c m∧Fr (fun k=>k=g) w w':=by
 have eg:∀args w,(callFunc 63 args).run Tryz.prog w= .ok (.enter 63 args) w:=enters_of Tryz.func63 (by kernel_rfl) rfl;have hlay:CmpLays Tryz.prog 63 #[] pc 3 Xf g 0 l.toArray.size w:=fun _ _ _ _ x y=>Adp x.1 x.2.1 x.2.2 y.1 y.2.1 y.2.2 _
 have hlt:g<w.heap.size:=(Ps h.2 rfl).elim fun _ h=>h.1.lt
 have hn':l.toArray.size=n:=by rw [List.size_toArray];exact h.1
 have hs:=AnyQ.slices_SortFunc Ans 3 Tryz.isAgg49 Tryz.sizeOf49 pc Amw As7 Xf As9 63 #[] g 0 c l.toArray w eg hlay (own_holds Amw (by decide) h) hlt (by omega);rw [hn'] at hs;change Calls Tryz.prog 108 _ _ _ at hs;refine hs.mono ?_;rintro e w' ⟨rfl,d,m,os,hp,hsd,rfl⟩;have hdn:d.size=n:=by rw [hp.1,hn']
 obtain⟨h1,h2⟩:=Ag6 Amw (by decide) h d hdn m os;refine⟨rfl,d.toList,?_,?_,h1,h2⟩
 ·have h3:=hp.2.2;rw [show d.extract 0 n=d by rw [←hdn];simp,show l.toArray.extract 0 n=l.toArray by rw [←hn'];simp] at h3;simpa using h3
 ·intro i j hi hj hij;rw [Array.length_toList] at hi hj;have h4:=hsd i j (Nat.zero_le _) hij (by omega);rw [U6,getElem!_pos d j hj,getElem!_pos d i hi] at h4;have h5:=of_decide_eq_false h4;simpa using h5
end Go.Proofs.YtgbjodnegkbfoaaGreat
namespace Go.Acc
open Go.RowKit Go.Sort Go.Proofs
section
variable {α:Type} {f:α→List Value} {sz:Nat} {w:World} {B g n c:Nat} {e:TypeId} {l:List α} {P:Program}
theorem Y4(t ty:TypeId)(z:Value)(ht:P.underlying t=some (.slice e))(hv:∀W,(zeroValue e).run P W= .ok z W)(hzs:z.cells.size=sz)(hz1:∀u∈z.cells.toList,u.oneCell'=true)(hf:∀x,(f x).length=sz)
  (h:Own f sz e w B (some ⟨g,0,none⟩) n c l) (k cc:Nat) (hk:k<n):
  ∃w',(Builtin.clear_ #[t] ty #[.slice (some ⟨g,k*sz,none⟩) (n-k) cc]).run P w= .ok (.tuple #[]) w'∧Own f sz e w' B (some ⟨g,0,none⟩) k c (l.take k)∧Fr (fun k=>k=g) w w':=by
 have hg:∃cur,Af w g e cur∧cur.size=c*sz∧cur.toList.take (n*sz)=l.flatMap f∧n≤c∧c≤maxLen∧B≤g:=by
  rcases h.2.2 with⟨hv,_⟩|⟨g',cap,cur,hv,hb,hg,hnc,hcm,hcs,htake⟩
  ·cases hv
  ·injection hv with h1 h2 h3
   injection h1 with h1
   injection h1 with h1
   subst h1 h3;exact⟨cur,hg,hcs,htake,hnc,hcm,hb⟩
 obtain⟨cur,hK,hsz,htake,hnc,hcm,hb⟩:=hg;have hm:(Builtin.zeroCells z.cells (n-k)).toList.length=(n-k)*sz:=by rw [Array.length_toList,size_zeroCells,hzs]
 have e1:k*sz+(n-k)*sz=n*sz:=by rw [←Nat.add_mul];congr 1;omega
 have e2:n*sz≤c*sz:=Nat.mul_le_mul_right _ hnc;have hst:=run_storeCells_at P g (k*sz) e (Builtin.zeroCells z.cells (n-k)).toList 0 cur w hK (by rw [hm];omega) (by
  intro u hu;simp only [Builtin.zeroCells,Array.toList_map,List.mem_map] at hu;obtain⟨i,hi,rfl⟩:=hu;have hi':i<(n-k)*z.cells.size:=by simpa using hi
  have h0:0<z.cells.size:=by
   rcases Nat.eq_zero_or_pos z.cells.size with h|h
   ·rw [h] at hi';simp at hi'
   ·exact h
  have hmod:i % z.cells.size<z.cells.size:=Nat.mod_lt _ h0;rw [getElem!_pos z.cells _ hmod];exact hz1 _ (by simp))
 simp only [Nat.add_zero] at hst;obtain⟨m,hm1⟩:∃m,n-k=m+1:=⟨n-k-1,by omega⟩;refine⟨w.setRow g (cur.toList.take (k*sz)++(Builtin.zeroCells z.cells (n-k)).toList++cur.toList.drop (k*sz+(Builtin.zeroCells z.cells (n-k)).toList.length)).toArray,?_,⟨by rw [List.length_take,h.1];omega,?_,.inr ⟨g,c,_,rfl,hb,setRow_heap w g cur _ e _ hK,by omega,hcm,?_,?_⟩⟩,⟨rfl,rfl,rfl,by simp [World.setRow],fun i _ hi=>setRow_other w g i _ (by rintro rfl;exact hi rfl)⟩⟩
 ·rw [hm1] at hst⊢;simp [Builtin.clear_,run_underlying ht,hv,hst]
 ·rw [Bj hf,List.length_take,h.1,Nat.min_eq_left (by omega)]
 ·simp only [List.size_toArray,List.length_append,List.length_take,List.length_drop,Array.length_toList];rw [Array.length_toList] at hm;omega
 ·rw [Me hf,←htake,List.take_take,Ato,List.take_append_of_le_length (by rw [List.length_take,Array.length_toList];omega),List.take_take]
  congr 1
  omega
end
end Go.Acc
namespace Go.Proofs.YtgbjodnegkbfoaaGreat
open Go.RowKit Go.Acc Go.Lib
theorem Aeo:∀(x y:P3) (W:World),(Op.equal 49 (Hi x) (Hi y)).run Tryz.prog W= .ok (decide (x=y)) W:=by
 rintro⟨a,b,c⟩ ⟨a',b',c'⟩ W;by_cases h1:a=a' <;>by_cases h2:b=b' <;>by_cases h3:c=c' <;>(simp only [Hi];(change (Op.equalIn 10000 _ _ _).run Tryz.prog W=_);go_simp)
theorem Abt(x y:P3)(b:Bool)(h:decide (x=y)=b):∀W:World,(binOp .eql 49 (.agg #[Aa Ab x.1,Aa Ab x.2.1,Aa Ab x.2.2]) (.agg #[Aa Ab y.1,Aa Ab y.2.1,Aa Ab y.2.2])).run Tryz.prog W= .ok (.bool b) W:=by
 intro W;subst h;rw [run_eql_struct];have h1:(Op.equalIn 10000 49 (.agg #[Aa Ab x.1,Aa Ab x.2.1,Aa Ab x.2.2]) (.agg #[Aa Ab y.1,Aa Ab y.2.1,Aa Ab y.2.2])).run Tryz.prog W=_:=Aeo x y W;rw [h1];rfl
theorem Tn(x y:P3)(b:Bool)(h:(!decide (x=y))=b):∀W:World,(binOp .neq 49 (.agg #[Aa Ab x.1,Aa Ab x.2.1,Aa Ab x.2.2]) (.agg #[Aa Ab y.1,Aa Ab y.2.1,Aa Ab y.2.2])).run Tryz.prog W= .ok (.bool b) W:=by
 intro W;subst h;rw [run_neq_struct];have h1:(Op.equalIn 10000 49 (.agg #[Aa Ab x.1,Aa Ab x.2.1,Aa Ab x.2.2]) (.agg #[Aa Ab y.1,Aa Ab y.2.1,Aa Ab y.2.2])).run Tryz.prog W=_:=Aeo x y W;rw [h1];rfl
theorem tail_run(g n c k:Nat)(hk:k<n)(hc:n≤c):∀w,(Instr.sliceAt 45 (.slice (some ⟨g,0,none⟩) n c) (some (Aa Ab k)) none none).run Tryz.prog w= .ok (.slice (some ⟨g,k*3,none⟩) (n-k) (c-k)) w:=by
 intro w;have ht:Tryz.prog.underlying 45=some (.slice (Tryz.prog.elem 45)):=by kernel_rfl
 have hz:(sizeOf (Tryz.prog.elem 45)).run Tryz.prog w= .ok 3 w:=by kernel_rfl
 rw [run_sliceAt_slice (h:=ht),run_slice_l (ht:=ht) (h0:=by omega) (h1:=by omega),hz];simp [Result.andThen,sliced,Ho];omega
theorem head_run(g n c k:Nat)(hk:k≤c):∀w,(Instr.sliceAt 45 (.slice (some ⟨g,0,none⟩) n c) none (some (Aa Ab k)) none).run Tryz.prog w= .ok (.slice (some ⟨g,0,none⟩) k c) w:=by
 intro w;have ht:Tryz.prog.underlying 45=some (.slice (Tryz.prog.elem 45)):=by kernel_rfl
 have hz:(sizeOf (Tryz.prog.elem 45)).run Tryz.prog w= .ok 3 w:=by kernel_rfl
 rw [run_sliceAt_slice (h:=ht),run_slice_h (ht:=ht) (h0:=by omega) (h2:=by omega),hz];simp [Result.andThen,sliced,Addr.add]
theorem R7{w:World}{B g n c k:Nat}{d:Array P3}{a b e:Int}(h:Jf w B (some ⟨g,0,none⟩) n c d.toList)(hk:k<n)(hx:d[k]! =(a,b,e)):
  (w.cell? ⟨g,k*3,none⟩=some (Aa Ab a)∧w.cell? ⟨g,k*3+1,none⟩=some (Aa Ab b)∧w.cell? ⟨g,k*3+2,none⟩=some (Aa Ab e))∧w.frozen? ⟨g,k*3,none⟩=false∧w.frozen? ⟨g,k*3+1,none⟩=false∧w.frozen? ⟨g,k*3+2,none⟩=false:=by
 obtain⟨b',off,e1,hk',h1⟩:=h.is.at_ Jb (by omega) hk;injection e1 with e1
 injection e1 with e1 e2
 subst e1 e2;have hx':d.toList[k]=(a,b,e):=by
  rw [←hx,getElem!_pos d k (by simpa using hk')];simp
 rw [hx'] at h1;have h0:=h1 0 (by omega);have h2:=h1 1 (by omega);have h3:=h1 2 (by omega);simp only [Nat.zero_add,Nat.add_zero] at h0 h2 h3;exact⟨⟨h0,h2,h3⟩,Kn h.2 _,Kn h.2 _,Kn h.2 _⟩
theorem Am9{w:World}{B g n c k:Nat}{d:Array P3}(h:Jf w B (some ⟨g,0,none⟩) n c d.toList)(hk:k<n)(a b e:Int):
  Jf (((w.setCell ⟨g,k*3,none⟩ (Aa Ab a)).setCell ⟨g,k*3+1,none⟩ (Aa Ab b)).setCell ⟨g,k*3+2,none⟩ (Aa Ab e)) B (some ⟨g,0,none⟩) n c (d.setIfInBounds k (a,b,e)).toList:=by
 have hd:d.toList.length=n:=h.1;refine⟨by simpa using hd,?_⟩;have h1:=((h.2.stored (k*3) (Aa Ab a)).1.stored (k*3+1) (Aa Ab b)).1.stored (k*3+2) (Aa Ab e);have e1:(d.setIfInBounds k (a,b,e)).toList.flatMap pc=(((d.toList.flatMap pc).set (k*3) (Aa Ab a)).set (k*3+1) (Aa Ab b)).set (k*3+2) (Aa Ab e):=by
  apply List.ext_getElem?;intro j;simp only [List.getElem?_set,List.length_set,Bj Jb,hd,Array.toList_setIfInBounds];by_cases hj:j<n*3
  ·have hjd:j/3<n:=Nat.div_lt_of_lt_mul (by omega);have hjm:j % 3<3:=Nat.mod_lt _ (by omega);have hjj:j=j/3*3+j % 3:=by omega
   rw [hjj];generalize j/3=q at hjd;generalize j % 3=r at hjm;rw [G7 Jb _ q r (by rw [List.length_set];omega) hjm,G7 Jb _ q r (by omega) hjm,List.getElem_set];by_cases hq:k=q
   ·subst hq;rw [if_pos rfl];have:r=0∨r=1∨r=2:=by omega
    rcases this with rfl|rfl|rfl
    ·simp [pc];omega
    ·simp [pc];omega
    ·simp [pc];omega
   ·rw [if_neg hq,if_neg (by omega),if_neg (by omega),if_neg (by omega)]
  ·rw [List.getElem?_eq_none (by rw [Bj Jb,List.length_set];omega),if_neg (by omega),if_neg (by omega),if_neg (by omega),List.getElem?_eq_none (by rw [Bj Jb];omega)]
 rw [e1];exact h1.1
end Go.Proofs.YtgbjodnegkbfoaaGreat
namespace Go.Proofs.YtgbjodnegkbfoaaGreat
open Go.RowKit Go.Acc Go.Lib Go.Sort
theorem Tl{w:World}{B g n c k o:Nat}{d:Array P3}{a b e:Int}(h:Jf w B (some ⟨g,0,none⟩) n c d.toList)(hk:k<n)(hx:d[k]! =(a,b,e))(ho:k*3=o):
  w.cell? ⟨g,o,none⟩=some (Aa Ab a)∧w.cell? ⟨g,o+1,none⟩=some (Aa Ab b)∧w.cell? ⟨g,o+2,none⟩=some (Aa Ab e):=by
 subst ho;exact(R7 h hk hx).1
theorem Ap4{w:World}{B g n c:Nat}{d:Array P3}(h:Jf w B (some ⟨g,0,none⟩) n c d.toList)(k:Nat)(hk:k<n):
  (w.frozen? ⟨g,k*3,none⟩=false∧w.frozen? ⟨g,k*3+1,none⟩=false∧w.frozen? ⟨g,k*3+2,none⟩=false):=by
 obtain⟨⟨a,b,e⟩,hx⟩:∃x,d[k]! =x:=⟨_,rfl⟩;exact(R7 h hk hx).2
theorem Qo(d:Array P3)(h:∀j,j<d.size→keeps d j=true):compactUpTo d d.size=d.toList:=by
 rw [compactUpTo_all d d.size h,range_map_get]
theorem Ac6(d:Array P3)(h:d.size<2):compactUpTo d d.size=d.toList:=by
 rw [compactUpTo_all d d.size (fun j hj=>keeps_lt_one d j (by omega)),range_map_get]
theorem Z2(B g n c:Nat)(d:Array P3)(w:World)(h:Jf w B (some ⟨g,0,none⟩) n c d.toList)(hn:n≤2147483648):
  Calls Tryz.prog 109 #[.slice (some ⟨g,0,none⟩) n c] w fun e w'=>∃k,k=(compactUpTo d d.size).length∧e= .returned (.slice (some ⟨g,0,none⟩) k c)∧Jf w' B (some ⟨g,0,none⟩) k c (compactUpTo d d.size)∧Fr (fun k=>k=g) w w':=by
 have hdn:d.size=n:=by rw [←Array.length_toList];exact h.1
 have hcap:=h.cap.1;by_cases h2:n<2
 ·have hd2:decide ((n:Int)<2)=true:=decide_eq_true (by omega);have HO:=Hd h;have HD:=Hd hdn;have HC:=Hd (Ac6 d (by omega));clear h hdn;go_enter Tryz.func109,Tryz.ntmps109;go_wp2;go_ret;refine⟨n,?_,rfl,?_,Fr.refl _ _⟩
  ·rw [HC.o,Array.length_toList,HD.o]
  ·rw [HC.o];exact HO.o
 ·have hd2:decide ((n:Int)<2)=false:=decide_eq_false (by omega);have HO:=Hd h;have HD:=Hd hdn;clear h hdn;go_enter Tryz.func109,Tryz.ntmps109;go_wp2;go_loopg [3] n (fun gg s3 wr=>∃k:Nat,1≤k∧k≤n∧n-k≤gg∧s3= Aa Ab k∧Jf wr B (some ⟨g,0,none⟩) n c d.toList∧Fr (fun k=>k=g) w wr∧∀j,j<k→keeps d j=true)
  case atStart=>exact⟨1,Ath _,by omega,by omega,rfl,HO.o,Fr.refl _ _,keeps_lt_one d⟩
  case round=>
   obtain⟨k,hk1,hk,hg,rfl,hO,hF,hall⟩:=hrel;obtain⟨j,rfl⟩:∃j,k=j+1:=⟨k-1,by omega⟩;by_cases hlt:j+1<n
   ·obtain⟨⟨x0,x1,x2⟩,hx⟩:∃x,d[j+1]! =x:=⟨_,rfl⟩;obtain⟨⟨y0,y1,y2⟩,hy⟩:∃x,d[j]! =x:=⟨_,rfl⟩;have A:=Hd hall;have HX:=Hd hx;have HY:=Hd hy;have HO1:=Hd hO;have HF1:=Hd hF;clear hall hx hy hO hF HO;obtain⟨⟨a0,a1,a2⟩,_⟩:=R7 HO1.o hlt HX.o;obtain⟨⟨b0,b1,b2⟩,_⟩:=R7 HO1.o (show j<n by omega) HY.o;have hw1:IntKind.i64.wrap (j:Int)=(j:Int):=IntWalk.i64_in _ (by omega);have hi0:0≤(j:Int)+1:=by omega
    have hi1:(j:Int)+1<(n:Int):=by omega
    have hi2:((j:Int)+1).toNat=j+1:=by omega
    have hj1:j<n:=by omega
    have hw2:IntKind.i64.wrap ((j:Int)+1+1)=(j:Int)+1+1:=IntWalk.i64_in _ (by omega);by_cases hxy:(x0,x1,x2)=(y0,y1,y2)
    ·have heq:=Abt (x0,x1,x2) (y0,y1,y2) true (decide_eq_true hxy);have HEQ:=Hd hxy;have ht:=tail_run g n c (j+1) hlt hcap;simp only [Int.natCast_add,Int.cast_ofNat_Int] at ht;clear hxy;go_wp2_with fail;go_quiet (fail);go_wp2_with fail;have HO2:=Hd (HO1.o.pure (below_drewN (Below.refl _ _) nq));have HF2:=Hd (HF1.o.drewN nq);have hci:CompInv d (j+1+1) (j+1) d:=CompInv.start A.o (keeps_neg (by omega) (by rw [Nat.add_sub_cancel,HX.o,HY.o];exact HEQ.o));have HCI:=Hd hci;generalize wr.drewN nq=wa at HO2 HF2⊢;clear a0 a1 a2 b0 b1 b2 hci heq hw1 hi0 hi1 hi2 hw2;go_loopg [3,5] n (fun gg s3 s5 wr=>∃(m k:Nat) (dk:Array P3),j+1+(m+1)≤n∧n-m≤gg∧s3= Aa Ab k∧s5= Aa Ab ((m:Int)+1)∧CompInv d (j+1+(m+1)) k dk∧Jf wr B (some ⟨g,0,none⟩) n c dk.toList∧Fr (fun k=>k=g) w wr)
     case atStart=>exact⟨0,j+1,d,by omega,by omega,by go_num,by go_num,HCI.o,HO2.o,HF2.o⟩
     case round=>
      clear HCI HO2 HF2;obtain⟨m,k,dk,hm,hg3,rfl,rfl,hci,hO,hF⟩:=hrel;have HO2:=Hd hO;have HF2:=Hd hF;have hklt:=hci.lt;have HCI:=Hd hci;clear hO hF hci;by_cases hlt2:j+1+(m+1)<n
      ·obtain⟨⟨p0,p1,p2⟩,hp⟩:∃x,d[j+1+(m+1)]! =x:=⟨_,rfl⟩;obtain⟨⟨q0,q1,q2⟩,hq⟩:∃x,d[j+1+m]! =x:=⟨_,rfl⟩;obtain⟨a0,a1,a2⟩:=Tl HO2.o hlt2 ((HCI.o.high _ (by omega)).trans hp) (show(j+1+(m+1))*3=(j+1)*3+(m+1)*3 by omega);obtain⟨b0,b1,b2⟩:=Tl HO2.o (show j+1+m<n by omega) ((HCI.o.high _ (by omega)).trans hq) (show(j+1+m)*3=(j+1)*3+m*3 by omega);obtain⟨⟨r0,r1,r2⟩,hr⟩:∃x,dk[k]! =x:=⟨_,rfl⟩;obtain⟨c0,c1,c2⟩:=Tl HO2.o (show k<n by omega) hr rfl;obtain⟨z0,z1,z2⟩:=Ap4 HO2.o k (by omega);clear hr;have HP:=Hd hp;have HQ:=Hd hq;clear hp hq;have hw1:IntKind.i64.wrap (m:Int)=(m:Int):=IntWalk.i64_in _ (by omega);have hi0:0≤(m:Int)+1:=by omega
       have hi1:(m:Int)+1<((n-(j+1):Nat):Int):=by omega
       have hi2:((m:Int)+1).toNat=m+1:=by omega
       have hj1:m<n-(j+1):=by omega
       have hk1:k<n:=by omega
       have hw2:IntKind.i64.wrap ((m:Int)+1+1)=(m:Int)+1+1:=IntWalk.i64_in _ (by omega);have hw3:IntKind.i64.wrap ((k:Int)+1)=(k:Int)+1:=IntWalk.i64_in _ (by omega);by_cases hpq:(p0,p1,p2)=(q0,q1,q2)
       ·have heq:=Tn (p0,p1,p2) (q0,q1,q2) false (by rw [decide_eq_true hpq];rfl);have HPQ:=Hd hpq;clear hpq;go_wp2_with fail;go_quiet (fail);go_wp2_with fail;go_roundg (n-(m+1))
        case measure=>omega
        case rel=>
         refine⟨m+1,k,dk,by omega,by omega,by go_num,by go_num,?_,HO2.o.pure (below_drewN (Below.refl _ _) _),HF2.o.drewN _⟩;exact HCI.o.skip (keeps_neg (by omega) (by rw [HP.o,show j+1+(m+1)-1=j+1+m by omega,HQ.o];exact HPQ.o))
       ·have heq:=Tn (p0,p1,p2) (q0,q1,q2) true (by rw [decide_eq_false hpq];rfl);have HPQ:=Hd hpq;clear hpq;go_wp2_with fail;go_quiet (fail);go_wp2_with fail;have HS:=Hd (Am9 (HO2.o.pure (below_drewN (Below.refl _ _) nq)) hk1 p0 p1 p2);have hf:Fr (fun k=>k=g) w ((((wr.drewN nq).setCell ⟨g,k*3,none⟩ (Aa Ab p0)).setCell ⟨g,k*3+1,none⟩ (Aa Ab p1)).setCell ⟨g,k*3+2,none⟩ (Aa Ab p2)):=(((HF2.o.drewN nq).setCell (fun _=>rfl) _).setCell (fun _=>rfl) _).setCell (fun _=>rfl) _;have HFS:=Hd hf;clear hf;go_roundg (n-(m+1))
        case measure=>omega
        case rel=>
         refine⟨m+1,k+1,dk.setIfInBounds k (p0,p1,p2),by omega,by omega,by go_num,by go_num,?_,HS.o,HFS.o⟩;have:=HCI.o.keep (by rw [HD.o];omega) (keeps_pos (by rw [HP.o,show j+1+(m+1)-1=j+1+m by omega,HQ.o];exact HPQ.o));rw [HP.o] at this;exact this
      ·have hj2:j+1+(m+1)=n:=by omega
       have hkn:k<n:=by omega
       have ht2:=tail_run g n c k hkn hcap;have hh2:=head_run g n c k (by omega);have hz:∀W:World,(zeroValue 49).run Tryz.prog W= .ok (.agg #[Aa Ab 0,Aa Ab 0,Aa Ab 0]) W:=by intro W;go_simp
       obtain⟨w',hcl,hO',hF'⟩:=Y4 (P:=Tryz.prog) (sz:=3) 45 0 (.agg #[Aa Ab 0,Aa Ab 0,Aa Ab 0]) Tryz.underlying45 hz rfl (by decide) Jb HO2.o k (c-k) hkn;have HOC:=Hd hO';have HFC:=Hd (HF2.o.trans hF' (fun _ _ h=>h));have hlk:(compactUpTo d d.size).length=k:=by rw [HD.o,←hj2];exact HCI.o.len
       have hlow:compactUpTo d d.size=dk.toList.take k:=by
        have hsz:dk.size=n:=by rw [HCI.o.size,HD.o]
        apply List.ext_getElem?;intro i;by_cases hi:i<k
        ·have h1:=HCI.o.low i hi;rw [hj2,←HD.o] at h1;rw [h1,List.getElem?_take_of_lt hi,getElem!_pos dk i (by omega)];simp
        ·rw [List.getElem?_eq_none (by omega),List.getElem?_eq_none (by rw [List.length_take];omega)]
       have HL:=Hd hlow;have HLK:=Hd hlk;clear hO' hF' hz hlk hlow hj2;go_wp2_with fail;go_ret;refine⟨k,HLK.o.symm,rfl,?_,HFC.o⟩;rw [HL.o];exact HOC.o
    ·have heq:=Abt (x0,x1,x2) (y0,y1,y2) false (decide_eq_false hxy);have HNE:=Hd hxy;clear hxy;go_wp2_with fail;go_quiet (fail);go_wp2_with fail;go_roundg (n-(j+2))
     case measure=>omega
     case rel=>
      refine⟨j+2,by omega,by omega,by omega,by go_num,HO1.o.pure (below_drewN (Below.refl _ _) _),HF1.o.drewN _,?_⟩;intro i hi;by_cases e:i=j+1
      ·subst e;exact keeps_pos (by rw [Nat.add_sub_cancel,HX.o,HY.o];exact HNE.o)
      ·exact A.o i (by omega)
   ·obtain rfl:n=j+1:=by omega
    have HA:=Hd hall;clear hall;have HO1:=Hd hO;have HF1:=Hd hF;clear hO hF;go_wp2_with fail;go_ret;refine⟨j+1,?_,rfl,?_,HF1.o⟩
    ·rw [Qo d (by rw [HD.o];exact HA.o),Array.length_toList,HD.o]
    ·rw [Qo d (by rw [HD.o];exact HA.o)];exact HO1.o
theorem Pj(x:P3):¬Ih x x:=by unfold Ih;omega
theorem Re{x y z:P3}(h1:Ih x y)(h2:Ih y z):Ih x z:=by unfold Ih at *;omega
theorem Rc(x y:P3):Ih x y∨x=y∨Ih y x:=by
 obtain⟨a,b,c⟩:=x;obtain⟨a',b',c'⟩:=y;unfold Ih;simp only [Prod.mk.injEq];omega
def It(x:P3):List P3→List P3
 | []=>[x]
 |y::l=>if Ih y x then y::It x l else if y=x then y::l else x::y::l
def Ik(l:List P3):List P3:=l.foldl (fun m x=>It x m) []
abbrev Iy(l:List P3):Prop:=l.Pairwise Ih
theorem Th(x y:P3):∀l,y∈It x l↔y=x∨y∈l
 | []=>by simp [It]
 |z::l=>by
  unfold It;split
  ·rw [List.mem_cons,Th x y l,List.mem_cons];constructor
   ·rintro(h|h|h)
    ·exact .inr (.inl h)
    ·exact .inl h
    ·exact .inr (.inr h)
   ·rintro(h|h|h)
    ·exact .inr (.inl h)
    ·exact .inl h
    ·exact .inr (.inr h)
  ·split
   ·rename_i h;subst h;simp
   ·simp
theorem Sw(x:P3):∀l,Iy l→Iy (It x l)
 | [],_=>by simp [It]
 |y::l,h=>by
  have h':=List.pairwise_cons.1 h;unfold It;split
  ·rename_i hyx;refine List.pairwise_cons.2 ⟨fun z hz=>?_,Sw x l h'.2⟩;rcases(Th x z l).1 hz with rfl|hz
   ·exact hyx
   ·exact h'.1 z hz
  ·split
   ·exact h
   ·rename_i h1 h2;have hxy:Ih x y:=by
     rcases Rc x y with h|h|h
     ·exact h
     ·exact absurd h.symm h2
     ·exact absurd h h1
    refine List.pairwise_cons.2 ⟨fun z hz=>?_,h⟩;rcases List.mem_cons.1 hz with rfl|hz
    ·exact hxy
    ·exact Re hxy (h'.1 z hz)
theorem Sv:∀(l m:List P3),Iy m→Iy (l.foldl (fun m x=>It x m) m)
 | [],_,h=>h
 |x::l,m,h=>Sv l (It x m) (Sw x m h)
theorem Abm(y:P3):∀(l m:List P3),y∈l.foldl (fun m x=>It x m) m↔y∈m∨y∈l
 | [],m=>by simp
 |x::l,m=>by
  rw [List.foldl_cons,Abm y l,Th,List.mem_cons];constructor
  ·rintro((h|h)|h)
   ·exact .inr (.inl h)
   ·exact .inl h
   ·exact .inr (.inr h)
  ·rintro(h|h|h)
   ·exact .inl (.inr h)
   ·exact .inl (.inl h)
   ·exact .inr h
theorem Qa(l:List P3):Iy (Ik l):=Sv l [] List.Pairwise.nil
theorem U9(y:P3)(l:List P3):y∈Ik l↔y∈l:=by rw [Ik,Abm];simp
theorem Py:∀(l m:List P3),Iy l→Iy m→(∀x,x∈l↔x∈m)→l=m
 | [],[],_,_,_=>rfl
 | [],y::m,_,_,h=>by have:=(h y).2 (by simp);simp at this
 |x::l,[],_,_,h=>by have:=(h x).1 (by simp);simp at this
 |x::l,y::m,hl,hm,h=>by
  have hl':=List.pairwise_cons.1 hl;have hm':=List.pairwise_cons.1 hm;have hxy:x=y:=by
   rcases List.mem_cons.1 ((h x).1 (by simp)) with e|e
   ·exact e
   ·rcases List.mem_cons.1 ((h y).2 (by simp)) with e'|e'
    ·exact e'.symm
    ·exact absurd (Re (hl'.1 y e') (hm'.1 x e)) (Pj x)
  subst hxy
  congr 1
  refine Py l m hl'.2 hm'.2 fun z=>?_
  have hz:=h z;rw [List.mem_cons,List.mem_cons] at hz;constructor
  ·intro hzl;rcases hz.1 (.inr hzl) with e|e
   ·subst e;exact absurd (hl'.1 z hzl) (Pj z)
   ·exact e
  ·intro hzl;rcases hz.2 (.inr hzl) with e|e
   ·subst e;exact absurd (hm'.1 z hzl) (Pj z)
   ·exact e
theorem N3(d:Array P3):∀m,m≤d.size→∀x,x∈compactUpTo d m↔∃j,j<m∧d[j]! =x
 |0,_,x=>by simp [compactUpTo]
 |m+1,hm,x=>by
  rw [compactUpTo_succ,List.mem_append,N3 d m (by omega) x];constructor
  ·rintro(⟨j,hj,e⟩|h)
   ·exact⟨j,by omega,e⟩
   ·split at h
    ·exact⟨m,by omega,(List.mem_singleton.1 h).symm⟩
    ·cases h
  ·rintro⟨j,hj,e⟩;by_cases hjm:j=m
   ·subst hjm;by_cases hk:keeps d j=true
    ·right;rw [if_pos hk];simp [e]
    ·left;have h0:j≠0:=by rintro rfl;exact hk (by simp [keeps])
     refine⟨j-1,by omega,?_⟩;by_cases he:d[j]! =d[j-1]!
     ·rw [←he,e]
     ·exact absurd (keeps_pos he) hk
   ·exact .inl ⟨j,by omega,e⟩
theorem On(d:Array P3)(hs:∀i j,i<j→j<d.size→¬Ih d[j]! d[i]!):∀m,m≤d.size→Iy (compactUpTo d m)
 |0,_=>by simp [compactUpTo]
 |m+1,hm=>by
  rw [compactUpTo_succ];refine List.pairwise_append.2 ⟨On d hs m (by omega),by split <;>simp,?_⟩;intro x hx y hy;split at hy
  ·rename_i hk;obtain rfl:=List.mem_singleton.1 hy;obtain⟨j,hj,rfl⟩:=(N3 d m (by omega) x).1 hx;have hne:d[m]! ≠d[m-1]! :=by
    unfold keeps at hk;rcases of_decide_eq_true hk with h|h
    ·omega
    ·exact h
   have h1:=hs (m-1) m (by omega) (by omega);have h2:Ih d[m-1]! d[m]! :=by
    rcases Rc d[m-1]! d[m]! with h|h|h
    ·exact h
    ·exact absurd h.symm hne
    ·exact absurd h h1
   by_cases e:j=m-1
   ·subst e;exact h2
   ·have h3:=hs j (m-1) (by omega) (by omega);rcases Rc d[j]! d[m-1]! with h|h|h
    ·exact Re h h2
    ·rw [h];exact h2
    ·exact absurd h h3
  ·cases hy
theorem V4(l m:List P3)(hp:m.Perm l)(hr:Ahz m):compactUpTo m.toArray m.toArray.size=Ik l:=by
 refine Py _ _ (On _ ?_ _ (Ath _)) (Qa l) fun x=>?_
 ·intro i j hij hj;have hj':j<m.length:=by simpa using hj
  have:=hr i j (by omega) hj' hij;rw [getElem!_pos m.toArray j (by simpa using hj'),getElem!_pos m.toArray i (by simp;omega)];simpa using this
 ·rw [N3 _ _ (Ath _),U9,←hp.mem_iff,List.mem_iff_getElem];constructor
  ·rintro⟨j,hj,e⟩;have hj':j<m.length:=by simpa using hj
   rw [getElem!_pos m.toArray j hj] at e;exact⟨j,hj',by simpa using e⟩
  ·rintro⟨j,hj,e⟩;refine⟨j,by simpa using hj,?_⟩;rw [getElem!_pos m.toArray j (by simpa using hj)];simpa using e
end Go.Proofs.YtgbjodnegkbfoaaGreat
namespace Go.Proofs.YtgbjodnegkbfoaaGreat
open Go.RowKit Go.Acc
def Asc(n:Nat)(x:P3):Prop:=0≤x.1∧x.1<x.2.1∧x.2.1≤n∧1≤x.2.2∧x.2.2≤14
def Es(n:Nat)(s s':Ao):Prop:=∃t,s'.o=s.o++t∧∀x∈t,Asc n x
theorem Es.refl(n:Nat)(s:Ao):Es n s s:=⟨[],by simp,by simp⟩
theorem Es.trans{n:Nat}{s s' s'':Ao}(h:Es n s s')(h':Es n s' s''):Es n s s'':=by
 obtain⟨t,e,g⟩:=h;obtain⟨t',e',g'⟩:=h';refine⟨t++t',by rw [e',e,Ato],fun x hx=>?_⟩;rcases List.mem_append.1 hx with hx|hx
 ·exact g x hx
 ·exact g' x hx
theorem F5{n:Nat}(s:Ao){a b c:Int}(ha:0≤a)(hb:b≤n)(hc:1≤c∧c≤14):Es n s (s.tell a b c):=by
 unfold Ao.tell;split
 ·rename_i h;exact⟨[(a,b,c)],rfl,fun x hx=>by rw [List.mem_singleton.1 hx];exact⟨ha,h,hb,hc.1,hc.2⟩⟩
 ·exact Es.refl n s
def N9(l:List UInt8)(go:Rq→Ao→Ao×Int):Prop:=∀r s,Nw l.length r→Es l.length s (go r s).1
theorem Agm{l:List UInt8}{p q t v:Int}{ts:List Nat}(h:Dc l p q t v ts=0):Bm l.length p q t v=0∧Fw ts t=true∧Bh l p q t v=0∧(if t=4 then Kl l (Bg l p q t v).toNat else Fv l (Bg l p q t v).toNat v.toNat (if t=5 then 1 else 0))=0:=by
 unfold Dc at h;split at h
 ·rename_i h1;exact absurd h h1
 ·rename_i h1;split at h
  ·cases h
  ·rename_i h2;split at h
   ·rename_i h3;exact absurd h h3
   ·rename_i h3;refine⟨by simpa using h1,by simpa using h2,by simpa using h3,?_⟩;split at h
    ·rename_i h4;rw [if_pos h4];exact h
    ·rename_i h4;rw [if_neg h4];exact h
theorem Alb{l:List UInt8}{p q t v:Int}(h:Dc l p q t v [4,5,25]=0):
  0≤Cm l p q t v [4,5,25]∧Cm l p q t v [4,5,25]+(D5 l p q t v [4,5,25]).length≤l.length∧(t=4∨t=5→Cm l p q t v [4,5,25]+(D5 l p q t v [4,5,25]).length+1≤l.length)∧
  (t≠4→v≤Cm l p q t v [4,5,25])∧1≤v∧Cm l p q t v [4,5,25]=Bg l p q t v:=by
 obtain⟨h1,h2,hv0,hv8,hm⟩:=Ut h;obtain⟨_,_,h3,h4⟩:=Agm h;have hv:=(U8 hm).2;have ht:=Wx h3;have ea:Cm l p q t v [4,5,25]=Bg l p q t v:=by unfold Cm;rw [if_pos h]
 have eL:D5 l p q t v [4,5,25]=if t=4 then My l (Bg l p q t v).toNat else cntL l (Bg l p q t v).toNat v.toNat:=by unfold D5;rw [if_pos h]
 refine⟨h1,h2,?_,?_,hv.1,ea⟩
 ·intro ht45;by_cases h4':t=4
  ·rw [if_pos h4'] at h4 eL;unfold Kl at h4;split at h4
   ·rename_i hz;rw [ea,eL];unfold My;rw [List.length_take,List.length_drop];have hz2:=(Ys (l:=l) (k:=(Bg l p q t v).toNat) (by omega)).1;omega
   ·cases h4
  ·rw [if_neg h4'] at h4 eL;have h5:t=5:=by omega
   rw [if_pos h5] at h4;unfold Fv at h4;split at h4
   ·cases h4
   ·split at h4
    ·cases h4
    ·split at h4
     ·cases h4
     ·rw [ea,eL];unfold cntL;rw [List.length_take,List.length_drop];omega
 ·intro h4';rw [if_neg h4'] at h4;unfold Fv at h4;split at h4
  ·cases h4
  ·split at h4
   ·cases h4
   ·rw [ea];omega
theorem Afu{l:List UInt8}{p q t v:Int}(h:Dd l p q t v=0):0≤Fm l p q t v∧Fm l p q t v+Fy l p q t v≤l.length∧0≤Fy l p q t v:=by
 unfold Fm Fy;rw [if_pos h,if_pos h];rcases Rj l p q t v with⟨hm,e⟩|⟨hm,h'⟩
 ·rw [e] at h;exact absurd h hm
 have hr:=U8 hm;obtain⟨⟨h0,h1,h2,h3⟩,h4,h5⟩:=hr;simp only at h0 h1 h2 h3;rcases h' with⟨_,e⟩|⟨_,hi,_⟩|⟨_,hi,⟨g,e⟩|⟨_,_,e⟩|⟨_,_,_,e⟩|⟨_,_,hb,_⟩⟩
 ·rw [e] at h;cases h
 ·rw [if_pos hi,if_pos hi];omega
 ·rw [e] at h;exact absurd h g
 ·rw [e] at h;cases h
 ·rw [e] at h;cases h
 ·rw [if_neg (by rw [hi];decide),if_neg (by rw [hi];decide)];have:=Dn.1 hb;omega
section
variable {l:List UInt8} {go:Rq→Ao→Ao×Int} (r:Rq)
theorem Aqo(s:Ao):Es l.length s (C7 l r s).1:=by
 unfold C7;split
 ·exact Es.refl _ s
 ·rename_i h;obtain⟨h1,h2,h3,h4,h5,_⟩:=Alb (Decidable.of_not_not h);split
  ·rename_i ht;exact F5 s h1 (h3 (.inl ht)) (by omega)
  ·rename_i ht;split
   ·rename_i ht5;exact(F5 s (by have:=h4 ht;omega) (by omega) (by omega)).trans (F5 _ h1 (h3 (.inr ht5)) (by omega))
   ·exact(F5 s (by have:=h4 ht;omega) (by omega) (by omega)).trans (F5 _ h1 h2 (by omega))
theorem Alv(s:Ao):Es l.length s (C6 l r s).1:=by
 unfold C6;split
 ·rename_i h;obtain⟨h1,h2,_⟩:=Afu h;refine F5 s h1 h2 ?_;split <;>omega
 ·exact Es.refl _ s
theorem Apo(hgo:N9 l go)(s:Ao):Es l.length s (Fc l go r s).1:=by
 unfold Fc;split
 ·exact Es.refl _ s
 ·rename_i h;obtain⟨_,_,h3,h4,h5,_⟩:=Aop (Decidable.of_not_not h);have h6:=hgo (C9 l r) s h3;split
  ·exact h6
  ·exact h6.trans (F5 _ (by omega) (by omega) (by omega))
theorem Ar6(hl:Bw l r.p r.q r.t r.v=0)(i:Nat)(hi:i<lsLen l r.p r.q r.t r.v)(s:Ao):Es l.length s (Dl l r i s):=by
 unfold Dl;split
 ·rename_i ht;obtain⟨h1,h2,_,h4⟩:=Og hl;have e1:tgs r.t=1:=by unfold tgs;rw [if_pos ht]
  rw [e1,Nat.mul_add,Nat.mul_one] at h4;have e2:((lsLen l r.p r.q r.t r.v*r.v.toNat:Nat):Int)=lsLen l r.p r.q r.t r.v*r.v:=by
   rw [Int.natCast_mul,Int.toNat_of_nonneg (by omega)]
  rw [←e2];generalize lsLen l r.p r.q r.t r.v*r.v.toNat=X at*;exact F5 s (by omega) (by omega) (by omega)
 ·exact Es.refl _ s
theorem Arn(hl:Bw l r.p r.q r.t r.v=0)(s:Ao):Es l.length s (Gp l r s):=by
 unfold Gp;split
 ·rename_i hlt;obtain⟨h1,h2,h3,h4⟩:=Og hl;have h5:1≤aheadT r.t:=by
   rcases Nat.eq_zero_or_pos (aheadT r.t) with h|h
   ·rw [h] at h3;omega
   ·exact h
  have h6:1*r.v.toNat≤aheadT r.t*r.v.toNat:=Nat.mul_le_mul_right _ h5;generalize aheadT r.t*r.v.toNat=X at*;generalize lsLen l r.p r.q r.t r.v*(r.v.toNat+tgs r.t)=Y at*;exact F5 s (by omega) (by omega) (by omega)
 ·exact Es.refl _ s
theorem Aaf(hgo:N9 l go)(hl:Bw l r.p r.q r.t r.v=0):∀(k i:Nat) (s:Ao),i+k≤lsLen l r.p r.q r.t r.v→Es l.length s (Cj l go r k i s).1
 |0,i,s,_=>Es.refl _ s
 |k+1,i,s,hk=>by
  unfold Cj;have ht:=Ar6 r hl i (by omega) s;split
  ·exact ht
  ·rename_i ha;have hg:=hgo (Ed l r i) (Dl l r i s) (Afv hl (by omega) (Decidable.of_not_not ha));split
   ·exact ht.trans hg
   ·exact(ht.trans hg).trans (Aaf hgo hl k (i+1) _ (by omega))
theorem Aee(hgo:N9 l go)(s:Ao):Es l.length s (Cs l go r s).1:=by
 unfold Cs;split
 ·exact Apo r hgo s
 ·exact Es.refl _ s
theorem Apr(hgo:N9 l go)(s:Ao):Es l.length s (Dy l go r s).1:=by
 unfold Dy;split
 ·exact Es.refl _ s
 ·rename_i h;have hl:=Decidable.of_not_not h;split
  ·exact Aee r hgo s
  ·exact((Aee r hgo s).trans (Arn r hl _)).trans (Aaf r hgo hl _ _ _ (by omega))
theorem Apd(hgo:N9 l go)(s:Ao):Es l.length s (Cy l go r s).1:=by
 unfold Cy;split
 ·exact Aqo r s
 ·split
  ·exact Alv r s
  ·exact Apr r hgo s
end
theorem Amd(t:Int):1≤E6 t∧E6 t≤14:=by unfold E6;(repeat' split) <;>omega
theorem Anu{l:List UInt8}(r:Rq)(s:Ao)(hr:Nw l.length r):Es l.length s (Bq r s):=by
 obtain⟨h0,h1,h2,h3⟩:=hr;exact(show Es l.length s s.burn from⟨[],by simp [Ao.burn],by simp⟩).trans (F5 _ h0 h3 (Amd _))
theorem Aeb(l:List UInt8):∀d,N9 l (Bl l d)
 |0,r,s,_=>Es.refl _ s
 |d+1,r,s,hr=>by
  unfold Bl;split
  ·exact Es.refl _ s
  ·have hs:=Anu r s hr;split
   ·exact hs
   ·split
    ·exact hs
    ·exact(hs.trans (show Es l.length (Bq r s) ((Bq r s).see (Ea l r)) from⟨[],by simp [Ao.see],by simp⟩)).trans (Apd r (Aeb l d) _)
end Go.Proofs.YtgbjodnegkbfoaaGreat
