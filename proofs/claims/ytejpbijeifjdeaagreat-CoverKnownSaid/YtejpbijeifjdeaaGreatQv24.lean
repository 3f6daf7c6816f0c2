/- Parts of the proof. -/
import Derived.Test.YtejpbijeifjdeaaGreatQv23
import Derived.Lib.SlicesCompact
import Derived.Deep.LoopGhost
set_option maxHeartbeats 2000000
set_option maxRecDepth 100000
open Go.Value renaming int→Aa
open Go.IntKind renaming i64→Ab,u64→Ac
open Nat renaming le_refl→Ae
open Go.RowKit.Below renaming refl→Af
open Go.IntWalk renaming i64_in→Ag
open List renaming length_take→Au,length_cons→Av,append_assoc→Ax
open Go.Proofs.Tryz
open Go.Proofs.Tryz renaming prog→Ad
namespace Go.Proofs.YtejpbijeifjdeaaGreat
open Go.RowKit Go.Acc Go.Sort
variable {w:World}{B g n c k:Nat}{d:Array P3}{a b e q t v:Int}{l:List UInt8}{p:Nat→Prop}{vs:List Nv}
def E8(x y:P3):Prop:=x.1<y.1∨(x.1=y.1∧(x.2.1<y.2.1∨(x.2.1=y.2.1∧x.2.2<y.2.2)))
instance (x y:P3):Decidable (E8 x y):=by unfold E8;infer_instance
theorem rE(a b:Int):(a<b∧Lib.compareInt a b= -1)∨(a=b∧Lib.compareInt a b=0)∨(b<a∧Lib.compareInt a b=1):=by
 unfold Lib.compareInt;by_cases h1:a<b
 ·simp [h1]
 ·by_cases h2:b<a
  ·simp [h1,h2]
  ·have:a=b:=by omega
   simp [this]
theorem Vm(x y:P3):ltOf Xu x y=decide (E8 x y):=by
 unfold ltOf Xu Vs E8;rcases rE x.1 y.1 with⟨h1,e1⟩|⟨h1,e1⟩|⟨h1,e1⟩ <;>rcases rE x.2.1 y.2.1 with⟨h2,e2⟩|⟨h2,e2⟩|⟨h2,e2⟩ <;>rcases rE x.2.2 y.2.2 with⟨h3,e3⟩|⟨h3,e3⟩|⟨h3,e3⟩ <;>rw [e1,e2,e3] <;>(apply decide_eq_decide.2;simp;omega)
theorem Abs:SWO (ltOf Xu) where
 irrefl x:=by rw [Vm];apply decide_eq_false;unfold E8;omega
 trans x y z h1 h2:=by rw [Vm] at *;have h1:=of_decide_eq_true h1;have h2:=of_decide_eq_true h2;apply decide_eq_true;unfold E8 at *;omega
 ntrans x y z h1 h2:=by rw [Vm] at *;have h1:=of_decide_eq_false h1;have h2:=of_decide_eq_false h2;apply decide_eq_false;unfold E8 at *;omega
theorem sE(x:P3):(pc x).length=3:=rfl
theorem Abp(x:P3):∀v∈pc x,v.oneCell'=true:=bZ x
def lK(l:List P3):Prop:=∀(i j:Nat) (hi:i<l.length) (hj:j<l.length),i<j→¬E8 l[j] l[i]
theorem kR(B g n c:Nat)(l:List P3)(w:World)(h:F9 w B (some ⟨g,0,none⟩) n c l)(hn:n≤2147483648):
  Calls Ad 83 #[.slice (some ⟨g,0,none⟩) n c,.func (.func 47) #[] #[]] w fun e w'=>e= .returned (.tuple #[])∧∃m:List P3,m.Perm l∧lK m∧F9 w' B (some ⟨g,0,none⟩) n c m∧Fr (fun k=>k=g) w w':=by
 have z:∀args w,(callFunc 47 args).run Ad w= .ok (.enter 47 args) w:=enters_of func47 (by kernel_rfl) rfl;have f:CmpLays Ad 47 #[] pc 3 Xu g 0 l.toArray.size w:=fun _ _ _ _ x y=>eK x.1 x.2.1 x.2.2 y.1 y.2.1 y.2.2 _
 have p:g<w.heap.size:=(Qc h.2 rfl).elim fun _ h=>h.1.lt
 have a:l.toArray.size=n:=by rw [List.size_toArray];exact h.1
 have q:=AnyQ.slices_SortFunc tK 3 isAgg46 sizeOf46 pc sE Abp Xu Abs 47 #[] g 0 c l.toArray w z f (own_holds sE (by decide) h) p (by omega);rw [a] at q;change Calls Ad 83 _ _ _ at q;refine q.mono ?_;rintro e w' ⟨rfl,d,m,C,v,r,rfl⟩;have b:d.size=n:=by rw [v.1,a]
 obtain⟨h1,h2⟩:=kI sE (by decide) h d b m C;refine⟨rfl,d.toList,?_,?_,h1,h2⟩
 ·have h3:=v.2.2;rw [show d.extract 0 n=d by rw [←b];simp,show l.toArray.extract 0 n=l.toArray by rw [←a];simp] at h3;simpa using h3
 ·intro i j t u o;rw [Array.length_toList] at t u;have s:=r i j (Nat.zero_le _) o (by omega);rw [Vm,getElem!_pos d j u,getElem!_pos d i t] at s;have A:=of_decide_eq_false s;simpa using A
end Go.Proofs.YtejpbijeifjdeaaGreat
namespace Go.Acc
open Go.RowKit Go.Sort Go.Proofs
section
variable {α:Type} {f:α→List Value} {sz:Nat} {w:World} {B g n c:Nat} {e:TypeId} {l:List α} {P:Program}
theorem Zd(t ty:TypeId)(z:Value)(ht:P.underlying t=some (.slice e))(hv:∀W,(zeroValue e).run P W= .ok z W)(hzs:z.cells.size=sz)(hz1:∀u∈z.cells.toList,u.oneCell'=true)(hf:∀x,(f x).length=sz)
  (h:Own f sz e w B (some ⟨g,0,none⟩) n c l) (k cc:Nat) (hk:k<n):
  ∃w',(Builtin.clear_ #[t] ty #[.slice (some ⟨g,k*sz,none⟩) (n-k) cc]).run P w= .ok (.tuple #[]) w'∧Own f sz e w' B (some ⟨g,0,none⟩) k c (l.take k)∧Fr (fun k=>k=g) w w':=by
 have s:∃cur,Bb w g e cur∧cur.size=c*sz∧cur.toList.take (n*sz)=l.flatMap f∧n≤c∧c≤maxLen∧B≤g:=by
  rcases h.2.2 with⟨hv,_⟩|⟨H,D,cur,hv,q,s,d,b,r,a⟩
  ·cases hv
  ·injection hv with h1 h2 h3
   injection h1 with h1
   injection h1 with h1
   subst h1 h3;exact⟨cur,s,r,a,d,b,q⟩
 obtain⟨cur,y,E,a,d,b,q⟩:=s;have A:(Builtin.zeroCells z.cells (n-k)).toList.length=(n-k)*sz:=by rw [Array.length_toList,size_zeroCells,hzs]
 have F:k*sz+(n-k)*sz=n*sz:=by rw [←Nat.add_mul];congr 1;omega
 have G:n*sz≤c*sz:=Nat.mul_le_mul_right _ d;have j:=run_storeCells_at P g (k*sz) e (Builtin.zeroCells z.cells (n-k)).toList 0 cur w y (by rw [A];omega) (by
  intro u C;simp only [Builtin.zeroCells,Array.toList_map,List.mem_map] at C;obtain⟨i,hi,rfl⟩:=C;have o:i<(n-k)*z.cells.size:=by simpa using hi
  have h0:0<z.cells.size:=by
   rcases Nat.eq_zero_or_pos z.cells.size with h|h
   ·rw [h] at o;simp at o
   ·exact h
  have p:i % z.cells.size<z.cells.size:=Nat.mod_lt _ h0;rw [getElem!_pos z.cells _ p];exact hz1 _ (by simp))
 simp only [Nat.add_zero] at j;obtain⟨m,v⟩:∃m,n-k=m+1:=⟨n-k-1,by omega⟩;refine⟨w.setRow g (cur.toList.take (k*sz)++(Builtin.zeroCells z.cells (n-k)).toList++cur.toList.drop (k*sz+(Builtin.zeroCells z.cells (n-k)).toList.length)).toArray,?_,⟨by rw [Au,h.1];omega,?_,.inr ⟨g,c,_,rfl,q,setRow_heap w g cur _ e _ y,by omega,b,?_,?_⟩⟩,⟨rfl,rfl,rfl,by simp [World.setRow],fun i _ hi=>setRow_other w g i _ (by rintro rfl;exact hi rfl)⟩⟩
 ·rw [v] at j⊢;simp [Builtin.clear_,run_underlying ht,hv,j]
 ·rw [Cd hf,Au,h.1,Nat.min_eq_left (by omega)]
 ·simp only [List.size_toArray,List.length_append,Au,List.length_drop,Array.length_toList];rw [Array.length_toList] at A;omega
 ·rw [Mk hf,←a,List.take_take,Ax,List.take_append_of_le_length (by rw [Au,Array.length_toList];omega),List.take_take]
  congr 1
  omega
end
end Go.Acc
namespace Go.Proofs.YtejpbijeifjdeaaGreat
variable {w:World}{B g n c k:Nat}{d:Array P3}{a b e q t v:Int}{l:List UInt8}{p:Nat→Prop}{vs:List Nv}
section
open Go.RowKit Go.Acc Go.Lib
theorem gC:∀(x y:P3) (W:World),(Op.equal 46 (Hw x) (Hw y)).run Ad W= .ok (decide (x=y)) W:=by
 rintro⟨a,b,c⟩ ⟨a',b',c'⟩ W;by_cases h1:a=a' <;>by_cases h2:b=b' <;>by_cases h3:c=c' <;>(simp only [Hw];(change (Op.equalIn 10000 _ _ _).run Ad W=_);go_simp)
theorem Nf(x y:P3)(b:Bool)(h:decide (x=y)=b):∀W:World,(binOp .eql 46 (.agg #[Aa Ab x.1,Aa Ab x.2.1,Aa Ab x.2.2]) (.agg #[Aa Ab y.1,Aa Ab y.2.1,Aa Ab y.2.2])).run Ad W= .ok (.bool b) W:=by
 intro W;subst h;rw [run_eql_struct];have h1:(Op.equalIn 10000 46 (.agg #[Aa Ab x.1,Aa Ab x.2.1,Aa Ab x.2.2]) (.agg #[Aa Ab y.1,Aa Ab y.2.1,Aa Ab y.2.2])).run Ad W=_:=gC x y W;rw [h1];rfl
theorem Ng(x y:P3)(b:Bool)(h:(!decide (x=y))=b):∀W:World,(binOp .neq 46 (.agg #[Aa Ab x.1,Aa Ab x.2.1,Aa Ab x.2.2]) (.agg #[Aa Ab y.1,Aa Ab y.2.1,Aa Ab y.2.2])).run Ad W= .ok (.bool b) W:=by
 intro W;subst h;rw [run_neq_struct];have h1:(Op.equalIn 10000 46 (.agg #[Aa Ab x.1,Aa Ab x.2.1,Aa Ab x.2.2]) (.agg #[Aa Ab y.1,Aa Ab y.2.1,Aa Ab y.2.2])).run Ad W=_:=gC x y W;rw [h1];rfl
theorem tail_run(g n c k:Nat)(hk:k<n)(hc:n≤c):∀w,(Instr.sliceAt 42 (.slice (some ⟨g,0,none⟩) n c) (some (Aa Ab k)) none none).run Ad w= .ok (.slice (some ⟨g,k*3,none⟩) (n-k) (c-k)) w:=by
 intro w;have ht:Ad.underlying 42=some (.slice (Ad.elem 42)):=by kernel_rfl
 have a:(sizeOf (Ad.elem 42)).run Ad w= .ok 3 w:=by kernel_rfl
 rw [run_sliceAt_slice (h:=ht),run_slice_l (ht:=ht) (h0:=by omega) (h1:=by omega),a];simp [Result.andThen,sliced,Iv];omega
theorem head_run(g n c k:Nat)(hk:k≤c):∀w,(Instr.sliceAt 42 (.slice (some ⟨g,0,none⟩) n c) none (some (Aa Ab k)) none).run Ad w= .ok (.slice (some ⟨g,0,none⟩) k c) w:=by
 intro w;have ht:Ad.underlying 42=some (.slice (Ad.elem 42)):=by kernel_rfl
 have a:(sizeOf (Ad.elem 42)).run Ad w= .ok 3 w:=by kernel_rfl
 rw [run_sliceAt_slice (h:=ht),run_slice_h (ht:=ht) (h0:=by omega) (h2:=by omega),a];simp [Result.andThen,sliced,Addr.add]
theorem Sh(h:F9 w B (some ⟨g,0,none⟩) n c d.toList)(hk:k<n)(hx:d[k]! =(a,b,e)):
  (w.cell? ⟨g,k*3,none⟩=some (Aa Ab a)∧w.cell? ⟨g,k*3+1,none⟩=some (Aa Ab b)∧w.cell? ⟨g,k*3+2,none⟩=some (Aa Ab e))∧w.frozen? ⟨g,k*3,none⟩=false∧w.frozen? ⟨g,k*3+1,none⟩=false∧w.frozen? ⟨g,k*3+2,none⟩=false:=by
 obtain⟨m,l,f,i,h1⟩:=h.is.at_ Gt (by omega) hk;injection f with f
 injection f with f e2
 subst f e2;have j:d.toList[k]=(a,b,e):=by
  rw [←hx,getElem!_pos d k (by simpa using i)];simp
 rw [j] at h1;have h0:=h1 0 (by omega);have h2:=h1 1 (by omega);have h3:=h1 2 (by omega);simp only [Nat.zero_add,Nat.add_zero] at h0 h2 h3;exact⟨⟨h0,h2,h3⟩,Kv h.2 _,Kv h.2 _,Kv h.2 _⟩
theorem sT(h:F9 w B (some ⟨g,0,none⟩) n c d.toList)(hk:k<n)(a b e:Int):
  F9 (((w.setCell ⟨g,k*3,none⟩ (Aa Ab a)).setCell ⟨g,k*3+1,none⟩ (Aa Ab b)).setCell ⟨g,k*3+2,none⟩ (Aa Ab e)) B (some ⟨g,0,none⟩) n c (d.setIfInBounds k (a,b,e)).toList:=by
 have m:d.toList.length=n:=h.1;refine⟨by simpa using m,?_⟩;have h1:=((h.2.stored (k*3) (Aa Ab a)).1.stored (k*3+1) (Aa Ab b)).1.stored (k*3+2) (Aa Ab e);have p:(d.setIfInBounds k (a,b,e)).toList.flatMap pc=(((d.toList.flatMap pc).set (k*3) (Aa Ab a)).set (k*3+1) (Aa Ab b)).set (k*3+2) (Aa Ab e):=by
  apply List.ext_getElem?;intro j;simp only [List.getElem?_set,List.length_set,Cd Gt,m,Array.toList_setIfInBounds];by_cases s:j<n*3
  ·have i:j/3<n:=Nat.div_lt_of_lt_mul (by omega);have f:j % 3<3:=Nat.mod_lt _ (by omega);have l:j=j/3*3+j % 3:=by omega
   rw [l];generalize j/3=q at i;generalize j % 3=r at f;rw [H6 Gt _ q r (by rw [List.length_set];omega) f,H6 Gt _ q r (by omega) f,List.getElem_set];by_cases o:k=q
   ·subst o;rw [if_pos rfl];have:r=0∨r=1∨r=2:=by omega
    rcases this with rfl|rfl|rfl
    ·simp [pc];omega
    ·simp [pc];omega
    ·simp [pc];omega
   ·rw [if_neg o,if_neg (by omega),if_neg (by omega),if_neg (by omega)]
  ·rw [List.getElem?_eq_none (by rw [Cd Gt,List.length_set];omega),if_neg (by omega),if_neg (by omega),if_neg (by omega),List.getElem?_eq_none (by rw [Cd Gt];omega)]
 rw [p];exact h1.1
end
section
open Go.RowKit Go.Acc Go.Lib Go.Sort
theorem T6{o:Nat}(h:F9 w B (some ⟨g,0,none⟩) n c d.toList)(hk:k<n)(hx:d[k]! =(a,b,e))(ho:k*3=o):
  w.cell? ⟨g,o,none⟩=some (Aa Ab a)∧w.cell? ⟨g,o+1,none⟩=some (Aa Ab b)∧w.cell? ⟨g,o+2,none⟩=some (Aa Ab e):=by
 subst ho;exact(Sh h hk hx).1
theorem wR(h:F9 w B (some ⟨g,0,none⟩) n c d.toList)(k:Nat)(hk:k<n):
  (w.frozen? ⟨g,k*3,none⟩=false∧w.frozen? ⟨g,k*3+1,none⟩=false∧w.frozen? ⟨g,k*3+2,none⟩=false):=by
 obtain⟨⟨a,b,e⟩,hx⟩:∃x,d[k]! =x:=⟨_,rfl⟩;exact(Sh h hk hx).2
theorem Q9(d:Array P3)(h:∀j,j<d.size→keeps d j=true):compactUpTo d d.size=d.toList:=by
 rw [compactUpTo_all d d.size h,range_map_get]
theorem dR(d:Array P3)(h:d.size<2):compactUpTo d d.size=d.toList:=by
 rw [compactUpTo_all d d.size (fun j hj=>keeps_lt_one d j (by omega)),range_map_get]
theorem Zz(B g n c:Nat)(d:Array P3)(w:World)(h:F9 w B (some ⟨g,0,none⟩) n c d.toList)(hn:n≤2147483648):
  Calls Ad 84 #[.slice (some ⟨g,0,none⟩) n c] w fun e w'=>∃k,k=(compactUpTo d d.size).length∧e= .returned (.slice (some ⟨g,0,none⟩) k c)∧F9 w' B (some ⟨g,0,none⟩) k c (compactUpTo d d.size)∧Fr (fun k=>k=g) w w':=by
 have v:d.size=n:=by rw [←Array.length_toList];exact h.1
 have z:=h.cap.1;by_cases h2:n<2
 ·have aj:decide ((n:Int)<2)=true:=decide_eq_true (by omega);have Y:=Hd h;have t:=Hd v;have HC:=Hd (dR d (by omega));clear h v;go_enter func84,ntmps84;go_wp2;go_ret;refine⟨n,?_,rfl,?_,Fr.refl _ _⟩
  ·rw [HC.o,Array.length_toList,t.o]
  ·rw [HC.o];exact Y.o
 ·have aj:decide ((n:Int)<2)=false:=decide_eq_false (by omega);have Y:=Hd h;have t:=Hd v;clear h v;go_enter func84,ntmps84;go_wp2;go_loopg [3] n (fun gg s3 wr=>∃k:Nat,1≤k∧k≤n∧n-k≤gg∧s3= Aa Ab k∧F9 wr B (some ⟨g,0,none⟩) n c d.toList∧Fr (fun k=>k=g) w wr∧∀j,j<k→keeps d j=true)
  case atStart=>exact⟨1,Ae _,by omega,by omega,rfl,Y.o,Fr.refl _ _,keeps_lt_one d⟩
  case round=>
   obtain⟨k,Q,hk,hg,rfl,F,E,l⟩:=hrel;obtain⟨j,rfl⟩:∃j,k=j+1:=⟨k-1,by omega⟩;by_cases T:j+1<n
   ·obtain⟨⟨x0,x1,x2⟩,hx⟩:∃x,d[j+1]! =x:=⟨_,rfl⟩;obtain⟨⟨y0,y1,y2⟩,hy⟩:∃x,d[j]! =x:=⟨_,rfl⟩;have A:=Hd l;have HX:=Hd hx;have HY:=Hd hy;have p:=Hd F;have u:=Hd E;clear l hx hy F E Y;obtain⟨⟨a0,a1,a2⟩,_⟩:=Sh p.o T HX.o;obtain⟨⟨b0,b1,b2⟩,_⟩:=Sh p.o (show j<n by omega) HY.o;have V:IntKind.i64.wrap (j:Int)=(j:Int):=Ag _ (by omega);have M:0≤(j:Int)+1:=by omega
    have N:(j:Int)+1<(n:Int):=by omega
    have O:((j:Int)+1).toNat=j+1:=by omega
    have al:j<n:=by omega
    have X:IntKind.i64.wrap ((j:Int)+1+1)=(j:Int)+1+1:=Ag _ (by omega);by_cases s:(x0,x1,x2)=(y0,y1,y2)
    ·have y:=Nf (x0,x1,x2) (y0,y1,y2) true (decide_eq_true s);have Z:=Hd s;have ht:=tail_run g n c (j+1) T z;simp only [Int.natCast_add,Int.cast_ofNat_Int] at ht;clear s;go_wp2_with fail;go_quiet (fail);go_wp2_with fail;have a:=Hd (p.o.pure (below_drewN (Af _ _) nq));have f:=Hd (u.o.drewN nq);have q:CompInv d (j+1+1) (j+1) d:=CompInv.start A.o (keeps_neg (by omega) (by rw [Nat.add_sub_cancel,HX.o,HY.o];exact Z.o));have b:=Hd q;generalize wr.drewN nq=wa at a f⊢;clear a0 a1 a2 b0 b1 b2 q y V M N O X;go_loopg [3,5] n (fun gg s3 s5 wr=>∃(m k:Nat) (dk:Array P3),j+1+(m+1)≤n∧n-m≤gg∧s3= Aa Ab k∧s5= Aa Ab ((m:Int)+1)∧CompInv d (j+1+(m+1)) k dk∧F9 wr B (some ⟨g,0,none⟩) n c dk.toList∧Fr (fun k=>k=g) w wr)
     case atStart=>exact⟨0,j+1,d,by omega,by omega,by go_num,by go_num,b.o,a.o,f.o⟩
     case round=>
      clear b a f;obtain⟨m,k,dk,hm,bk,rfl,rfl,q,F,E⟩:=hrel;have a:=Hd F;have f:=Hd E;have bd:=q.lt;have b:=Hd q;clear F E q;by_cases U:j+1+(m+1)<n
      ·obtain⟨⟨H,I,J⟩,hp⟩:∃x,d[j+1+(m+1)]! =x:=⟨_,rfl⟩;obtain⟨⟨q0,q1,q2⟩,hq⟩:∃x,d[j+1+m]! =x:=⟨_,rfl⟩;obtain⟨a0,a1,a2⟩:=T6 a.o U ((b.o.high _ (by omega)).trans hp) (show(j+1+(m+1))*3=(j+1)*3+(m+1)*3 by omega);obtain⟨b0,b1,b2⟩:=T6 a.o (show j+1+m<n by omega) ((b.o.high _ (by omega)).trans hq) (show(j+1+m)*3=(j+1)*3+m*3 by omega);obtain⟨⟨r0,r1,r2⟩,hr⟩:∃x,dk[k]! =x:=⟨_,rfl⟩;obtain⟨c0,c1,c2⟩:=T6 a.o (show k<n by omega) hr rfl;obtain⟨z0,z1,z2⟩:=wR a.o k (by omega);clear hr;have HP:=Hd hp;have HQ:=Hd hq;clear hp hq;have V:IntKind.i64.wrap (m:Int)=(m:Int):=Ag _ (by omega);have M:0≤(m:Int)+1:=by omega
       have N:(m:Int)+1<((n-(j+1):Nat):Int):=by omega
       have O:((m:Int)+1).toNat=m+1:=by omega
       have al:m<n-(j+1):=by omega
       have Q:k<n:=by omega
       have X:IntKind.i64.wrap ((m:Int)+1+1)=(m:Int)+1+1:=Ag _ (by omega);have bo:IntKind.i64.wrap ((k:Int)+1)=(k:Int)+1:=Ag _ (by omega);by_cases r:(H,I,J)=(q0,q1,q2)
       ·have y:=Ng (H,I,J) (q0,q1,q2) false (by rw [decide_eq_true r];rfl);have D:=Hd r;clear r;go_wp2_with fail;go_quiet (fail);go_wp2_with fail;go_roundg (n-(m+1))
        case measure=>omega
        case rel=>
         refine⟨m+1,k,dk,by omega,by omega,by go_num,by go_num,?_,a.o.pure (below_drewN (Af _ _) _),f.o.drewN _⟩;exact b.o.skip (keeps_neg (by omega) (by rw [HP.o,show j+1+(m+1)-1=j+1+m by omega,HQ.o];exact D.o))
       ·have y:=Ng (H,I,J) (q0,q1,q2) true (by rw [decide_eq_false r];rfl);have D:=Hd r;clear r;go_wp2_with fail;go_quiet (fail);go_wp2_with fail;have HS:=Hd (sT (a.o.pure (below_drewN (Af _ _) nq)) Q H I J);have hf:Fr (fun k=>k=g) w ((((wr.drewN nq).setCell ⟨g,k*3,none⟩ (Aa Ab H)).setCell ⟨g,k*3+1,none⟩ (Aa Ab I)).setCell ⟨g,k*3+2,none⟩ (Aa Ab J)):=(((f.o.drewN nq).setCell (fun _=>rfl) _).setCell (fun _=>rfl) _).setCell (fun _=>rfl) _;have ab:=Hd hf;clear hf;go_roundg (n-(m+1))
        case measure=>omega
        case rel=>
         refine⟨m+1,k+1,dk.setIfInBounds k (H,I,J),by omega,by omega,by go_num,by go_num,?_,HS.o,ab.o⟩;have:=b.o.keep (by rw [t.o];omega) (keeps_pos (by rw [HP.o,show j+1+(m+1)-1=j+1+m by omega,HQ.o];exact D.o));rw [HP.o] at this;exact this
      ·have G:j+1+(m+1)=n:=by omega
       have R:k<n:=by omega
       have bn:=tail_run g n c k R z;have bl:=head_run g n c k (by omega);have hz:∀W:World,(zeroValue 46).run Ad W= .ok (.agg #[Aa Ab 0,Aa Ab 0,Aa Ab 0]) W:=by intro W;go_simp
       obtain⟨w',hcl,L,K⟩:=Zd (P:=Ad) (sz:=3) 42 0 (.agg #[Aa Ab 0,Aa Ab 0,Aa Ab 0]) underlying42 hz rfl (by decide) Gt a.o k (c-k) R;have af:=Hd L;have aa:=Hd (f.o.trans K (fun _ _ h=>h));have S:(compactUpTo d d.size).length=k:=by rw [t.o,←G];exact b.o.len
       have C:compactUpTo d d.size=dk.toList.take k:=by
        have bm:dk.size=n:=by rw [b.o.size,t.o]
        apply List.ext_getElem?;intro i;by_cases hi:i<k
        ·have h1:=b.o.low i hi;rw [G,←t.o] at h1;rw [h1,List.getElem?_take_of_lt hi,getElem!_pos dk i (by omega)];simp
        ·rw [List.getElem?_eq_none (by omega),List.getElem?_eq_none (by rw [Au];omega)]
       have HL:=Hd C;have ad:=Hd S;clear L K hz S C G;go_wp2_with fail;go_ret;refine⟨k,ad.o.symm,rfl,?_,aa.o⟩;rw [HL.o];exact af.o
    ·have y:=Nf (x0,x1,x2) (y0,y1,y2) false (decide_eq_false s);have ae:=Hd s;clear s;go_wp2_with fail;go_quiet (fail);go_wp2_with fail;go_roundg (n-(j+2))
     case measure=>omega
     case rel=>
      refine⟨j+2,by omega,by omega,by omega,by go_num,p.o.pure (below_drewN (Af _ _) _),u.o.drewN _,?_⟩;intro i hi;by_cases e:i=j+1
      ·subst e;exact keeps_pos (by rw [Nat.add_sub_cancel,HX.o,HY.o];exact ae.o)
      ·exact A.o i (by omega)
   ·obtain rfl:n=j+1:=by omega
    have HA:=Hd l;clear l;have p:=Hd F;have u:=Hd E;clear F E;go_wp2_with fail;go_ret;refine⟨j+1,?_,rfl,?_,u.o⟩
    ·rw [Q9 d (by rw [t.o];exact HA.o),Array.length_toList,t.o]
    ·rw [Q9 d (by rw [t.o];exact HA.o)];exact p.o
theorem Mh(x:P3):¬E8 x x:=by unfold E8;omega
theorem Rs{x y z:P3}(h1:E8 x y)(h2:E8 y z):E8 x z:=by unfold E8 at *;omega
theorem Rr(x y:P3):E8 x y∨x=y∨E8 y x:=by
 obtain⟨a,b,c⟩:=x;obtain⟨a',b',c'⟩:=y;unfold E8;simp only [Prod.mk.injEq];omega
def Gg(x:P3):List P3→List P3
 | []=>[x]
 |y::l=>if E8 y x then y::Gg x l else if y=x then y::l else x::y::l
def Cx(l:List P3):List P3:=l.foldl (fun m x=>Gg x m) []
abbrev Jc(l:List P3):Prop:=l.Pairwise E8
theorem T1(x y:P3):∀l,y∈Gg x l↔y=x∨y∈l
 | []=>by simp [Gg]
 |z::l=>by
  unfold Gg;split
  ·rw [List.mem_cons,T1 x y l,List.mem_cons];constructor
   ·rintro(h|h|h)
    ·exact .inr (.inl h)
    ·exact .inl h
    ·exact .inr (.inr h)
   ·rintro(h|h|h)
    ·exact .inr (.inl h)
    ·exact .inl h
    ·exact .inr (.inr h)
  ·split
   ·rename_i h;subst h;simp
   ·simp
theorem S6(x:P3):∀l,Jc l→Jc (Gg x l)
 | [],_=>by simp [Gg]
 |y::l,h=>by
  have b:=List.pairwise_cons.1 h;unfold Gg;split
  ·rename_i hyx;refine List.pairwise_cons.2 ⟨fun z hz=>?_,S6 x l b.2⟩;rcases(T1 x z l).1 hz with rfl|hz
   ·exact hyx
   ·exact b.1 z hz
  ·split
   ·exact h
   ·rename_i h1 h2;have a:E8 x y:=by
     rcases Rr x y with h|h|h
     ·exact h
     ·exact absurd h.symm h2
     ·exact absurd h h1
    refine List.pairwise_cons.2 ⟨fun z hz=>?_,h⟩;rcases List.mem_cons.1 hz with rfl|hz
    ·exact a
    ·exact Rs a (b.1 z hz)
theorem Y9(l:List P3)(x:P3):Cx (l++ [x])=Gg x (Cx l):=by simp [Cx]
theorem S5:∀(l m:List P3),Jc m→Jc (l.foldl (fun m x=>Gg x m) m)
 | [],_,h=>h
 |x::l,m,h=>S5 l (Gg x m) (S6 x m h)
theorem bL(y:P3):∀(l m:List P3),y∈l.foldl (fun m x=>Gg x m) m↔y∈m∨y∈l
 | [],m=>by simp
 |x::l,m=>by
  rw [List.foldl_cons,bL y l,T1,List.mem_cons];constructor
  ·rintro((h|h)|h)
   ·exact .inr (.inl h)
   ·exact .inl h
   ·exact .inr (.inr h)
  ·rintro(h|h|h)
   ·exact .inl (.inr h)
   ·exact .inl (.inl h)
   ·exact .inr h
theorem Qs(l:List P3):Jc (Cx l):=S5 l [] List.Pairwise.nil
theorem Vp(y:P3)(l:List P3):y∈Cx l↔y∈l:=by rw [Cx,bL];simp
theorem V4:∀(l m:List P3),Jc l→Jc m→(∀x,x∈l↔x∈m)→l=m
 | [],[],_,_,_=>rfl
 | [],y::m,_,_,h=>by have:=(h y).2 (by simp);simp at this
 |x::l,[],_,_,h=>by have:=(h x).1 (by simp);simp at this
 |x::l,y::m,hl,hm,h=>by
  have b:=List.pairwise_cons.1 hl;have c:=List.pairwise_cons.1 hm;have f:x=y:=by
   rcases List.mem_cons.1 ((h x).1 (by simp)) with e|e
   ·exact e
   ·rcases List.mem_cons.1 ((h y).2 (by simp)) with d|d
    ·exact d.symm
    ·exact absurd (Rs (b.1 y d) (c.1 x e)) (Mh x)
  subst f
  congr 1
  refine V4 l m b.2 c.2 fun z=>?_
  have g:=h z;rw [List.mem_cons,List.mem_cons] at g;constructor
  ·intro a;rcases g.1 (.inr a) with e|e
   ·subst e;exact absurd (b.1 z a) (Mh z)
   ·exact e
  ·intro a;rcases g.2 (.inr a) with e|e
   ·subst e;exact absurd (c.1 z a) (Mh z)
   ·exact e
theorem Od(d:Array P3):∀m,m≤d.size→∀x,x∈compactUpTo d m↔∃j,j<m∧d[j]! =x
 |0,_,x=>by simp [compactUpTo]
 |m+1,hm,x=>by
  rw [compactUpTo_succ,List.mem_append,Od d m (by omega) x];constructor
  ·rintro(⟨j,f,e⟩|h)
   ·exact⟨j,by omega,e⟩
   ·split at h
    ·exact⟨m,by omega,(List.mem_singleton.1 h).symm⟩
    ·cases h
  ·rintro⟨j,f,e⟩;by_cases a:j=m
   ·subst a;by_cases b:keeps d j=true
    ·right;rw [if_pos b];simp [e]
    ·left;have h0:j≠0:=by rintro rfl;exact b (by simp [keeps])
     refine⟨j-1,by omega,?_⟩;by_cases c:d[j]! =d[j-1]!
     ·rw [←c,e]
     ·exact absurd (keeps_pos c) b
   ·exact .inl ⟨j,by omega,e⟩
theorem O5(d:Array P3)(hs:∀i j,i<j→j<d.size→¬E8 d[j]! d[i]!):∀m,m≤d.size→Jc (compactUpTo d m)
 |0,_=>by simp [compactUpTo]
 |m+1,hm=>by
  rw [compactUpTo_succ];refine List.pairwise_append.2 ⟨O5 d hs m (by omega),by split <;>simp,?_⟩;intro x b y hy;split at hy
  ·rename_i hk;obtain rfl:=List.mem_singleton.1 hy;obtain⟨j,c,rfl⟩:=(Od d m (by omega) x).1 b;have a:d[m]! ≠d[m-1]! :=by
    unfold keeps at hk;rcases of_decide_eq_true hk with h|h
    ·omega
    ·exact h
   have h1:=hs (m-1) m (by omega) (by omega);have h2:E8 d[m-1]! d[m]! :=by
    rcases Rr d[m-1]! d[m]! with h|h|h
    ·exact h
    ·exact absurd h.symm a
    ·exact absurd h h1
   by_cases e:j=m-1
   ·subst e;exact h2
   ·have h3:=hs j (m-1) (by omega) (by omega);rcases Rr d[j]! d[m-1]! with h|h|h
    ·exact Rs h h2
    ·rw [h];exact h2
    ·exact absurd h h3
  ·cases hy
theorem Wm(l m:List P3)(hp:m.Perm l)(hr:lK m):compactUpTo m.toArray m.toArray.size=Cx l:=by
 refine V4 _ _ (O5 _ ?_ _ (Ae _)) (Qs l) fun x=>?_
 ·intro i j c b;have a:j<m.length:=by simpa using b
  have:=hr i j (by omega) a c;rw [getElem!_pos m.toArray j (by simpa using a),getElem!_pos m.toArray i (by simp;omega)];simpa using this
 ·rw [Od _ _ (Ae _),Vp,←hp.mem_iff,List.mem_iff_getElem];constructor
  ·rintro⟨j,b,e⟩;have a:j<m.length:=by simpa using b
   rw [getElem!_pos m.toArray j b] at e;exact⟨j,a,by simpa using e⟩
  ·rintro⟨j,b,e⟩;refine⟨j,by simpa using b,?_⟩;rw [getElem!_pos m.toArray j (by simpa using b)];simpa using e
end
section
open Go.RowKit Go.Acc
def Lh(n:Nat)(x:P3):Prop:=0≤x.1∧x.1<x.2.1∧x.2.1≤n∧1≤x.2.2∧x.2.2≤14
def Et(n:Nat)(s s':Bj):Prop:=∃t,s'.o=s.o++t∧∀x∈t,Lh n x
theorem Et.refl(n:Nat)(s:Bj):Et n s s:=⟨[],by simp,by simp⟩
theorem Et.trans{s s' s'':Bj}(h:Et n s s')(h':Et n s' s''):Et n s s'':=by
 obtain⟨t,e,g⟩:=h;obtain⟨t',e',g'⟩:=h';refine⟨t++t',by rw [e',e,Ax],fun x hx=>?_⟩;rcases List.mem_append.1 hx with hx|hx
 ·exact g x hx
 ·exact g' x hx
theorem Gj(s:Bj){c:Int}(ha:0≤a)(hb:b≤n)(hc:1≤c∧c≤14):Et n s (s.tell a b c):=by
 unfold Bj.tell;split
 ·rename_i h;exact⟨[(a,b,c)],rfl,fun x hx=>by rw [List.mem_singleton.1 hx];exact⟨ha,h,hb,hc.1,hc.2⟩⟩
 ·exact Et.refl n s
def Om(l:List UInt8)(go:Rq→Bj→Bj×Int):Prop:=∀r s,K6 l.length r→Et l.length s (go r s).1
theorem jQ{p:Int}{ts:List Nat}(h:C4 l p q t v ts=0):Cc l.length p q t v=0∧Kr ts t=true∧B8 l p q t v=0∧(if t=4 then I0 l (By l p q t v).toNat else Fv l (By l p q t v).toNat v.toNat (if t=5 then 1 else 0))=0:=by
 unfold C4 at h;split at h
 ·rename_i h1;exact absurd h h1
 ·rename_i h1;split at h
  ·cases h
  ·rename_i h2;split at h
   ·rename_i h3;exact absurd h h3
   ·rename_i h3;refine⟨by simpa using h1,by simpa using h2,by simpa using h3,?_⟩;split at h
    ·rename_i h4;rw [if_pos h4];exact h
    ·rename_i h4;rw [if_neg h4];exact h
theorem Y0{p:Int}(h:C4 l p q t v [4,5,25]=0):
  0≤C6 l p q t v [4,5,25]∧C6 l p q t v [4,5,25]+(Eo l p q t v [4,5,25]).length≤l.length∧(t=4∨t=5→C6 l p q t v [4,5,25]+(Eo l p q t v [4,5,25]).length+1≤l.length)∧
  (t≠4→v≤C6 l p q t v [4,5,25])∧1≤v∧C6 l p q t v [4,5,25]=By l p q t v:=by
 obtain⟨h1,h2,i,j,f⟩:=U8 h;obtain⟨_,_,h3,h4⟩:=jQ h;have g:=(Vo f).2;have ht:=Ke h3;have c:C6 l p q t v [4,5,25]=By l p q t v:=by unfold C6;rw [if_pos h]
 have b:Eo l p q t v [4,5,25]=if t=4 then La l (By l p q t v).toNat else cntL l (By l p q t v).toNat v.toNat:=by unfold Eo;rw [if_pos h]
 refine⟨h1,h2,?_,?_,g.1,c⟩
 ·intro d;by_cases a:t=4
  ·rw [if_pos a] at h4 b;unfold I0 at h4;split at h4
   ·rename_i hz;rw [c,b];unfold La;rw [Au,List.length_drop];have m:=(R4 (l:=l) (k:=(By l p q t v).toNat) (by omega)).1;omega
   ·cases h4
  ·rw [if_neg a] at h4 b;have e:t=5:=by omega
   rw [if_pos e] at h4;unfold Fv at h4;split at h4
   ·cases h4
   ·split at h4
    ·cases h4
    ·split at h4
     ·cases h4
     ·rw [c,b];unfold cntL;rw [Au,List.length_drop];omega
 ·intro a;rw [if_neg a] at h4;unfold Fv at h4;split at h4
  ·cases h4
  ·split at h4
   ·cases h4
   ·rw [c];omega
theorem Pd{p:Int}(h:Gu l p q t v=0):0≤Hr l p q t v∧Hr l p q t v+Jl l p q t v≤l.length∧0≤Jl l p q t v:=by
 unfold Hr Jl;rw [if_pos h,if_pos h];rcases N1 l p q t v with⟨b,e⟩|⟨b,c⟩
 ·rw [e] at h;exact absurd h b
 have f:=Vo b;obtain⟨⟨h0,h1,h2,h3⟩,i,j⟩:=f;simp only at h0 h1 h2 h3;rcases c with⟨_,e⟩|⟨_,a,_⟩|⟨_,a,⟨g,e⟩|⟨_,_,e⟩|⟨_,_,_,e⟩|⟨_,_,d,_⟩⟩
 ·rw [e] at h;cases h
 ·rw [if_pos a,if_pos a];omega
 ·rw [e] at h;exact absurd h g
 ·rw [e] at h;cases h
 ·rw [e] at h;cases h
 ·rw [if_neg (by rw [a];decide),if_neg (by rw [a];decide)];have:=Em.1 d;omega
section
variable {l:List UInt8} {go:Rq→Bj→Bj×Int} (r:Rq)
theorem xO(s:Bj):Et l.length s (Cn l r s).1:=by
 unfold Cn;split
 ·exact Et.refl _ s
 ·rename_i h;obtain⟨h1,h2,h3,a,b,_⟩:=Y0 (Decidable.of_not_not h);split
  ·rename_i ht;exact Gj s h1 (h3 (.inl ht)) (by omega)
  ·rename_i ht;split
   ·rename_i ht5;exact(Gj s (by have:=a ht;omega) (by omega) (by omega)).trans (Gj _ h1 (h3 (.inr ht5)) (by omega))
   ·exact(Gj s (by have:=a ht;omega) (by omega) (by omega)).trans (Gj _ h1 h2 (by omega))
theorem qX(s:Bj):Et l.length s (Ct l r s).1:=by
 unfold Ct;split
 ·rename_i h;obtain⟨h1,h2,_⟩:=Pd h;refine Gj s h1 h2 ?_;split <;>omega
 ·exact Et.refl _ s
theorem vY(hgo:Om l go)(s:Bj):Et l.length s (Fe l go r s).1:=by
 unfold Fe;split
 ·exact Et.refl _ s
 ·rename_i h;obtain⟨_,_,h3,h4,h5,_⟩:=jW (Decidable.of_not_not h);have h6:=hgo (Gf l r) s h3;split
  ·exact h6
  ·exact h6.trans (Gj _ (by omega) (by omega) (by omega))
theorem Aam(hl:Cp l r.p r.q r.t r.v=0)(i:Nat)(hi:i<lsLen l r.p r.q r.t r.v)(s:Bj):Et l.length s (D6 l r i s):=by
 unfold D6;split
 ·rename_i ht;obtain⟨h1,h2,_,c⟩:=Ml hl;have a:tgs r.t=1:=by unfold tgs;rw [if_pos ht]
  rw [a,Nat.mul_add,Nat.mul_one] at c;have b:((lsLen l r.p r.q r.t r.v*r.v.toNat:Nat):Int)=lsLen l r.p r.q r.t r.v*r.v:=by
   rw [Int.natCast_mul,Int.toNat_of_nonneg (by omega)]
  rw [←b];generalize lsLen l r.p r.q r.t r.v*r.v.toNat=X at*;exact Gj s (by omega) (by omega) (by omega)
 ·exact Et.refl _ s
theorem zN(hl:Cp l r.p r.q r.t r.v=0)(s:Bj):Et l.length s (Hl l r s):=by
 unfold Hl;split
 ·rename_i hlt;obtain⟨h1,h2,h3,b⟩:=Ml hl;have a:1≤aheadT r.t:=by
   rcases Nat.eq_zero_or_pos (aheadT r.t) with h|h
   ·rw [h] at h3;omega
   ·exact h
  have c:1*r.v.toNat≤aheadT r.t*r.v.toNat:=Nat.mul_le_mul_right _ a;generalize aheadT r.t*r.v.toNat=X at*;generalize lsLen l r.p r.q r.t r.v*(r.v.toNat+tgs r.t)=Y at*;exact Gj s (by omega) (by omega) (by omega)
 ·exact Et.refl _ s
theorem Z7(hgo:Om l go)(hl:Cp l r.p r.q r.t r.v=0):∀(k i:Nat) (s:Bj),i+k≤lsLen l r.p r.q r.t r.v→Et l.length s (Du l go r k i s).1
 |0,i,s,_=>Et.refl _ s
 |k+1,i,s,hk=>by
  unfold Du;have ht:=Aam r hl i (by omega) s;split
  ·exact ht
  ·rename_i ha;have a:=hgo (G0 l r i) (D6 l r i s) (Uo hl (by omega) (Decidable.of_not_not ha));split
   ·exact ht.trans a
   ·exact(ht.trans a).trans (Z7 hgo hl k (i+1) _ (by omega))
theorem fS(hgo:Om l go)(s:Bj):Et l.length s (Eg l go r s).1:=by
 unfold Eg;split
 ·exact vY r hgo s
 ·exact Et.refl _ s
theorem wD(hgo:Om l go)(s:Bj):Et l.length s (Db l go r s).1:=by
 unfold Db;split
 ·exact Et.refl _ s
 ·rename_i h;have hl:=Decidable.of_not_not h;split
  ·exact fS r hgo s
  ·exact((fS r hgo s).trans (zN r hl _)).trans (Z7 r hgo hl _ _ _ (by omega))
theorem fO(hgo:Om l go)(s:Bj):Et l.length s (Da l go r s).1:=by
 unfold Da;split
 ·exact xO r s
 ·split
  ·exact qX r s
  ·exact wD r hgo s
end
theorem Z4(t:Int):1≤Ej t∧Ej t≤14:=by unfold Ej;(repeat' split) <;>omega
theorem tN(r:Rq)(s:Bj)(hr:K6 l.length r):Et l.length s (Cw r s):=by
 obtain⟨h0,h1,h2,h3⟩:=hr;exact(show Et l.length s s.burn from⟨[],by simp [Bj.burn],by simp⟩).trans (Gj _ h0 h3 (Z4 _))
theorem Wl(l:List UInt8):∀d,Om l (Ca l d)
 |0,r,s,_=>Et.refl _ s
 |d+1,r,s,hr=>by
  unfold Ca;split
  ·exact Et.refl _ s
  ·have hs:=tN r s hr;split
   ·exact hs
   ·split
    ·exact hs
    ·exact(hs.trans (show Et l.length (Cw r s) ((Cw r s).see (F7 l r)) from⟨[],by simp [Bj.see],by simp⟩)).trans (fO r (Wl l d) _)
theorem Ux(l:List P3):(Cx l).length≤l.length:=by
 have h:∀(x:P3) (m:List P3),(Gg x m).length≤m.length+1:=by
  intro x m
  induction m with
  |nil=>simp [Gg]
  |cons y m ih=>
   unfold Gg;split
   ·simp only [Av];omega
   ·split <;>simp
 have h2:∀(l m:List P3),(l.foldl (fun m x=>Gg x m) m).length≤m.length+l.length:=by
  intro l
  induction l with
  |nil=>intro m;simp
  |cons x l ih=>
   intro m;rw [List.foldl_cons,Av];have:=ih (Gg x m);have:=h x m;omega
 have:=h2 l [];simpa [Cx] using this
theorem oQ(B g n c:Nat)(l:List P3)(w:World)(h:F9 w B (some ⟨g,0,none⟩) n c l)(hn:n≤2147483648):
  Calls Ad 46 #[.slice (some ⟨g,0,none⟩) n c,.func (.func 47) #[] #[]] w fun e w'=>∃k,e= .returned (.slice (some ⟨g,0,none⟩) k c)∧F9 w' B (some ⟨g,0,none⟩) k c (Cx l)∧Fr (fun k=>k=g) w w':=by
 have q:=Hd h;clear h;go_enter func46,ntmps46;go_wp2_with fail;go_at_call 83;refine(kR B g n c l _ q.o hn).mono ?_;rintro e u ⟨rfl,m,j,p,a,b⟩;have r:=Hd j;have s:=Hd p;have f:=Hd a;have d:=Hd b;clear j p a b;go_wp2_with fail;go_at_call 84;refine(Zz B g n c m.toArray _ f.o hn).mono ?_;rintro e v ⟨k,t,rfl,a,b⟩;have i:=Wm l m r.o s.o;rw [i] at a;have f:=Hd a;have d:=Hd (d.o.trans b (fun _ _ h=>h));clear t a b i;go_wp2_with fail;go_ret;exact⟨k,rfl,f.o,d.o⟩
theorem nG(h:w.heap.size=g)(o:Obj):(w.alloc o).heap[g]?=some o:=by subst h;exact heap_alloc_new w o
theorem Xd(h:Dq l=0):K6 l.length ⟨(Df l).1,(Df l).2.1,(Df l).2.2.1,(Df l).2.2.2⟩∧3≤l.length:=by
 obtain⟨x,a⟩:∃x,l.getD (l.length-1) 0=x:=⟨_,rfl⟩;obtain⟨y,b⟩:∃x,l.getD (l.length-2) 0=x:=⟨_,rfl⟩;have h3:¬l.length<3:=fun h3=>by rw [Oy h3] at h;cases h
 have hw:Br (x.toNat:Int)=true:=by
  cases hw:Br (x.toNat:Int) with
  |true=>rfl
  |false=>rw [Oz a hw] at h;cases h
 have hu:Fq y=0:=by
  refine Decidable.byContradiction fun hu=>?_
  rw [Xb h3 a b hw hu] at h;exact hu h
 have h4:=Xc h3 a b hw hu;rw [h] at h4;have c:=Qh a b h;rw [c];have d:=B6.1 hw;refine⟨⟨?_,?_,?_,?_⟩,by omega⟩
 ·simp only;split at h4
  ·cases h4
  ·omega
 ·simp only;omega
 ·simp only;omega
 ·simp only;omega
def Ff(l:List UInt8):Rq:=⟨(Df l).1,(Df l).2.1,(Df l).2.2.1,(Df l).2.2.2⟩
def Ec(l:List UInt8)(fuel:Int):Bj:=(Bj.tell ⟨fuel,[],[]⟩ ((l.length:Int)-1) l.length 14).tell ((l.length:Int)-2) ((l.length:Int)-1) 8
def F8(l:List UInt8)(fuel:Int):Bj×Int:=Ca l (fuel.toNat+1) (Ff l) (Ec l fuel)
def Cb(l:List UInt8)(fuel:Int):Int:=if Dq l≠0 then Dq l else(F8 l fuel).2
def Cg(l:List UInt8)(fuel:Int):List P3:=if Cb l fuel≠0 then [] else Cx (F8 l fuel).1.o
theorem Gi(A:Option Addr)(n c:Nat)(fuel:Int)(l:List UInt8)(w:World)(hl:B4 w A n l)(hc:n≤c)(hn:n≤4294967296)(hf:fuel≤100000000):
  Calls Ad 17 #[.slice A n c,Aa Ab fuel] w fun e w'=>∃A' k c',e= .returned (.tuple #[.slice A' k c',Aa Ab (Cb l fuel)])∧F9 w' w.heap.size A' k c' (Cg l fuel)∧Below w.heap.size w w':=by
 have a7:=hl.1;have HI:=Hd hl;clear hl;by_cases hr:Dq l=0
 ·obtain⟨L,h3⟩:=Xd hr;have T:=Hd L;have HR:=Hd hr;clear L hr;go_enter func17,ntmps17;go_wp2_with fail;go_at_call 43;refine(Yt A n c l _ HI.o (by omega)).mono ?_;rintro e w1 ⟨rfl,Z⟩;rw [HR.o];obtain⟨a,ha⟩:∃a,(Df l).1=a:=⟨_,rfl⟩;obtain⟨b,H⟩:∃a,(Df l).2.1=a:=⟨_,rfl⟩;obtain⟨d,hd⟩:∃a,(Df l).2.2.1=a:=⟨_,rfl⟩;obtain⟨f,K⟩:∃a,(Df l).2.2.2=a:=⟨_,rfl⟩;rw [ha,H,hd,K];replace HI:=Hd (HI.o.pure Z);have r:=Hd Z;have a8:Ff l=⟨a,b,d,f⟩:=by unfold Ff;rw [ha,H,hd,K]
  rw [ha,H,hd,K] at T;have aw:=Hd a8;clear Z ha H hd K a8;have h0:=run_makeMap (P:=Ad) 74;go_upto_region 7 with fail
  obtain⟨E,j⟩:∃E:Ir,E=⟨w1.heap.size,w1.heap.size+1+1+1+1,w1.heap.size+1+1+1,w1.heap.size+1+1,w1.heap.size+1,A,n,c,l⟩:=⟨_,rfl⟩;have L:E.Ok:=by
   subst j;refine⟨?_,?_,?_,?_,?_,?_,?_,?_,?_,?_,hc,hn⟩ <;>(try (simp only;omega))
   intro ad z;obtain⟨b',cb,e,bs⟩:=HI.o.some_ C0 (by omega) (by omega);simp only at z;rw [e] at z;injection z with z
   subst z;exact bs
  obtain⟨W,N⟩:∃W,W=(((w1.alloc (.cells (Ab9 a b d f) 70)).alloc (.cells #[.slice none 0 0] 42)).alloc (.map #[] 0)).alloc (.cells #[.slice A n c,Aa Ab fuel,.map (some (w1.heap.size+1+1)),.func (.func 44) #[] #[.pointer (some ⟨w1.heap.size+1,0,none⟩)]] 77):=⟨_,rfl⟩;have q:W.heap.size=w1.heap.size+1+1+1+1:=by subst N;simp
  have I:Below w1.heap.size w1 W:=by
   subst N;exact((((Af _ _).alloc (Ae _) _).alloc (by simp <;>omega) _).alloc (by simp <;>omega) _).alloc (by simp <;>omega) _
  have hX:Iu E none W w1.heap.size 70 (Ab9 a b d f):=by
   refine⟨?_,?_⟩
   ·subst N;exact(((Bb.new w1 _ _).alloc _).alloc _).alloc _
   ·subst j;refine⟨?_,?_,?_,?_⟩ <;>(try (simp only;omega))
    simp
  have hC:E6 E none ⟨fuel,[],[]⟩ W:=by
   refine⟨L,?_,?_,?_,?_,?_⟩
   ·subst j;exact HI.o.pure I
   ·subst j N;exact Bb.new_ (by simp) _ _
   ·subst j N;exact⟨#[],0,(Below.heap_alloc _ _ _ (by simp)).trans (nG (by simp) _),rfl,by simp⟩
   ·subst j;refine⟨none,0,0,?_,Own.nil _ _,rfl⟩;subst N;exact((Bb.new_ (by simp) _ _).alloc _).alloc _
   ·subst j;rw [q];exact Ae _
  have a3:E.bl=w1.heap.size+1:=by rw [j]
  have a5:E.bw=w1.heap.size+1+1+1:=by rw [j]
  have a0:E.l=l:=by rw [j]
  have G:E.B0=w1.heap.size:=by rw [j]
  have a4:E.bm=w1.heap.size+1+1:=by rw [j]
  have bo:E.A=A:=by rw [j]
  have bq:E.n=n:=by rw [j]
  have bp:E.c=c:=by rw [j]
  rw [←N,←a5,←a4,←a3];rw [←bo,←bq,←bp];have R:E.B0≤W.heap.size:=by rw [q,G];omega
  have bf:=Hd (show w.heap.size≤E.B0 by rw [G];exact r.o.size);have M:=Hd (show w.heap.size≤E.B2 by have:=r.o.size;rw [j];simp only;omega);have bk:=Hd (r.o.trans (I.mono r.o.size));have s:=Hd hC;have bd:=Hd hC;have h:=Hd hX;have bb:=Hd G;have HE:=Hd j;have ax:=Hd (show Ec l fuel=((Bj.mk fuel [] []).tell ((l.length:Int)-1) l.length 14).tell ((l.length:Int)-2) ((l.length:Int)-1) 8 from rfl);have b5:=Hd I;have au:=Hd (D8.refl E none W);have b7:=Hd R;clear N q I hX hC a3 a5 a4 G j R h0;have b3:IntKind.i64.wrap ((n:Int)-1)=(n:Int)-1:=Ag _ (by omega);have b4:IntKind.i64.wrap ((n:Int)-2)=(n:Int)-2:=Ag _ (by omega);generalize w1.heap.size=br at h⊢;obtain⟨c0,c1,c2,c3⟩:=s.o.cells;have x0:=Bg h.o.1;have x1:=Bf h.o.1;have x2:=Be h.o.1;have x3:=Bh h.o.1;obtain⟨W0,rfl⟩:∃W0:World,W0=W:=⟨_,rfl⟩;have r:=au;clear au;have bx:=Hd bb.o;go_wp2_with fail;go_at_call 44
  with_reducible refine(G3 ((n:Int)-1) n 14 s.o (by simp)).mono ?_
  rintro e w2 ⟨rfl,g2,ay,V⟩;replace r:=Hd (r.o.trans V);replace h:=Hd (h.o.to V);replace s:=Hd ay;clear c0 c1 c2 c3 x0 x1 x2 x3;clear ay V;obtain⟨c0,c1,c2,c3⟩:=s.o.cells;have x0:=Bg h.o.1;have x1:=Bf h.o.1;have x2:=Be h.o.1;have x3:=Bh h.o.1;go_wp2_with fail;go_at_call 44
  with_reducible refine(G3 ((n:Int)-2) ((n:Int)-1) 8 s.o (by unfold Bj.tell;split <;>simp)).mono ?_
  rintro e w3 ⟨rfl,g3,az,X⟩;replace r:=Hd (r.o.trans X);replace h:=Hd (h.o.to X);replace s:=Hd az;clear c0 c1 c2 c3 x0 x1 x2 x3;clear az X;obtain⟨c0,c1,c2,c3⟩:=s.o.cells;have x0:=Bg h.o.1;have x1:=Bf h.o.1;have x2:=Be h.o.1;have x3:=Bh h.o.1;have ae:((Bj.mk fuel [] []).tell ((n:Int)-1) n 14).tell ((n:Int)-2) ((n:Int)-1) 8=Ec l fuel:=by rw [ax.o,a7]
  have af:(Ec l fuel).left=fuel:=by unfold Ec;rw [E0,E0]
  have ag:(Ec l fuel).o=[((n:Int)-1,(n:Int),14),((n:Int)-2,(n:Int)-1,8)]:=by
   rw [←ae];unfold Bj.tell;rw [if_pos (by omega),if_pos (by omega)];rfl
  have q:(Ec l fuel).size≤900000000:=by
   unfold Bj.size;rw [ag,af];simp only [Av,List.length_nil];omega
  rw [ae] at s;obtain⟨y,hy⟩:∃y,F8 l fuel=y:=⟨_,rfl⟩;have D:Ca E.l (fuel.toNat+1) ⟨a,b,d,f⟩ (Ec l fuel)=y:=by rw [a0,←aw.o];exact hy
  have B:=Wl l (fuel.toNat+1) (Ff l) (Ec l fuel) (by rw [aw.o];exact T.o);rw [show(Ca l (fuel.toNat+1) (Ff l) (Ec l fuel))=y from hy] at B;have aa:=Uu E (fuel.toNat+1) g3 (Ec l fuel) a b d f w3 s.o (by rw [af];omega) q (by rw [a0];exact T.o);rw [D] at aa;have p:Cb l fuel=y.2:=by unfold Cb;rw [if_neg (by simp [HR.o]),hy]
  have i:Cg l fuel=if y.2≠0 then [] else Cx y.1.o:=by unfold Cg;rw [p,hy]
  have be:=Hd aa;have HY:=Hd (show(Ca l (fuel.toNat+1) (Ff l) (Ec l fuel)).1=y.1 by rw [←hy];rfl);have u:=Hd p;have v:=Hd i;have ar:=Hd B;have bi:=Hd ag;have bj:=Hd q;clear ae af ag q D B aa p i hy ax;go_wp2_with fail;go_at_call 45;refine be.o.mono ?_;rintro e w4 ⟨rfl,g4,U,Y⟩;obtain⟨s4,er⟩:=y;simp only at U v ar u HY⊢;replace r:=Hd (r.o.trans Y);replace h:=Hd (h.o.to Y);replace s:=Hd U;clear c0 c1 c2 c3 x0 x1 x2 x3;clear U Y;obtain⟨c0,c1,c2,c3⟩:=s.o.cells;have x0:=Bg h.o.1;have x1:=Bf h.o.1;have x2:=Be h.o.1;have x3:=Bh h.o.1;have C:Below w.heap.size w w4:=by
   exact bk.o.trans ((r.o.belowB bd.o).mono bf.o)
  have S:=Hd C;clear C;by_cases J:er=0
  ·subst J;have i:Cg l fuel=Cx s4.o:=by rw [v.o];rfl
   have x:=Hd i;obtain⟨A',n',c',Q,m,hg⟩:=s.o.O;obtain⟨t,ht,_⟩:=ar.o;rw [bi.o] at ht;have F:s4.o.length=n':=m.1;have bt:1≤n':=by rw [←F,ht];simp
   have bu:n'≤2147483648:=by
    have h1:=((Ns l (fuel.toNat+1)) (Ff l) (Ec l fuel)).1.2;have h2:=Dw s4;have h3:(Ca l (fuel.toNat+1) (Ff l) (Ec l fuel)).1=s4:=HY.o;rw [h3] at h1;have:=bj.o;omega
   have hA:∃g,A'=some ⟨g,0,none⟩∧E.B2≤g:=by
    cases A' with
    |none=>exact absurd (m.is.none_ Gt (by omega)).2 (by omega)
    |some ad=>
     obtain⟨h1,h2,_⟩:=m.addr ad rfl;exact⟨ad.block,by rw [h1],h2⟩
   obtain⟨g,rfl,a6⟩:=hA;have v0:_=some (Value.slice (some ⟨g,0,none⟩) n' c'):=Q.cell 0;have bh:=Hd m;have HG:=Hd a6;clear i ht F bt hg a6 m Q;go_wp2_with fail;go_at_call 46;refine(oQ E.B2 g n' c' s4.o _ bh.o bu).mono ?_;rintro e w5 ⟨k,rfl,a2,a1⟩;have bg:=Hd a2;have C:Below w.heap.size w w5:=by
    refine S.o.trans (a1.belowB ?_ S.o.size);rintro k hk rfl;have:=M.o;have:=HG.o;omega
   have av:=Hd C;clear a2 a1 C;go_wp2_with fail;go_ret2;rw [u.o,x.o];exact⟨_,k,c',rfl,bg.o.rebase M.o,av.o⟩
  ·have bv:(er != 0)=true:=by simpa using J
   have i:Cg l fuel=[]:=by rw [v.o,if_pos J]
   have x:=Hd i;clear i J;go_wp2_with fail;go_ret2;rw [u.o,x.o];exact⟨none,0,0,rfl,Own.nil _ _,S.o⟩
 ·have bv:(Dq l != 0)=true:=by simpa using hr
  have p:Cb l fuel=Dq l:=by unfold Cb;rw [if_pos hr]
  have i:Cg l fuel=[]:=by unfold Cg;rw [p,if_pos hr]
  have u:=Hd p;have v:=Hd i;clear p i hr;go_enter func17,ntmps17;go_wp2_with fail;go_at_call 43;refine(Yt A n c l _ HI.o (by omega)).mono ?_;rintro e w1 ⟨rfl,Z⟩;have r:=Hd (Z.alloc Z.size (.cells #[Aa Ab (Df l).1,Aa Ab (Df l).2.1,Aa Ab (Df l).2.2.1,Aa Ab (Df l).2.2.2] 70));clear Z;go_wp2_with fail;go_ret2;rw [u.o,v.o];exact⟨none,0,0,rfl,Own.nil _ _,r.o⟩
theorem B7.imp{x:Nv}{t:Tr}(h:B7 w p x t):Np w x t:=by
 induction h with
 |mk h1 ha hac hx h2 hb hbc hy hl hc ih=>exact .mk h1 h2 (by omega) hl ih
theorem M1{α:Type}{f:α→List Value}{t:Nat}{cs:Array Value}{vs:List α}(h:Bb w g t cs)(hn:vs.length=n)(hc:cs.toList=vs.flatMap f):Is f w (some ⟨g,0,none⟩) n vs:=
 ⟨hn,fun j u hj=>⟨_,_,rfl,by rw [Nat.zero_add,h.cell,←Array.getElem?_toList,hc];exact hj⟩⟩
def Hg(w:World)(p:Nat→Prop)(vs:List Nv)(l:List Tr):Prop:=vs.length=l.length∧∀(i:Nat) v t,vs[i]?=some v→l[i]?=some t→B7 w p v t
theorem Hg.nil:Hg w p [] []:=⟨rfl,fun i v t h=>by simp at h⟩
theorem Hg.cons{v:Nv}{t:Tr}{l:List Tr}(h:B7 w p v t)(hs:Hg w p vs l):Hg w p (v::vs) (t::l):=by
 refine⟨by rw [Av,Av,hs.1],fun i v' t' hv ht=>?_⟩;cases i with
 |zero=>
  injection hv with hv
  injection ht with ht
  rw [←hv,←ht];exact h
 |succ i=>exact hs.2 i v' t' hv ht
theorem Nb{k n:Int}{u an ac bn bc:Nat}{s:List UInt8}{A B:Option Addr}{ks:List (List UInt8)}{l:List Tr}(h1:Fm w A an ks)(ha:∀ad,A=some ad→p ad.block)(hac:an≤ac)(hx:an≤1099511627776)
  (h2:It w B bn vs) (hb:∀ad,B=some ad→p ad.block) (hbc:bn≤bc) (hy:bn≤1099511627776) (hk:Hg w p vs l):B7 w p ⟨k,n,u,s,A,an,ac,B,bn,bc⟩ (.mk k n u s ks l):=
 B7.mk (x:=⟨k,n,u,s,A,an,ac,B,bn,bc⟩) h1 ha hac hx h2 hb hbc hy hk.1 hk.2
theorem Jy(k n:Int)(u:Nat)(s:List UInt8):B7 w p ⟨k,n,u,s,none,0,0,none,0,0⟩ (.mk k n u s [] []):=
 Nb (Is.nil _ _) (fun ad e=>by cases e) (Ae _) (by decide) (Is.nil _ _) (fun ad e=>by cases e) (Ae _) (by decide) Hg.nil
def sL(kk lk n1:Int)(u1:Nat)(n2:Int)(u2:Nat):Tr:= .mk 17 0 0 [] [[],[97],[98]] [
 .mk 10 0 0 [] [] [.mk 8 (-300) 0 [] [] [],.mk 6 0 0 [195,169] [] [],.mk 7 0 0 [] [] [],.mk 10 0 0 [] [] []],
 .mk kk 0 0 [] [] [.mk lk n1 u1 [] [] [],.mk lk n2 u2 [] [] []],
 .mk 17 0 0 [] [[97]] [.mk 1 0 0 [] [] []]]
def L9(g:Nat):Nv:=⟨17,0,0,[],some ⟨g+1,0,none⟩,3,3,some ⟨g+1+1+1+1+1+1,0,none⟩,3,3⟩
theorem yI{W:World}{o0:Obj}{c1 c2 c3 c4 c5 c6 c7:Array Value}{t1 t2 t3 t4 t5 t6 t7:Nat}(h:W=(((((((w.alloc o0).alloc (.cells c1 t1)).alloc (.cells c2 t2)).alloc (.cells c3 t3)).alloc (.cells c4 t4)).alloc (.cells c5 t5)).alloc (.cells c6 t6)).alloc (.cells c7 t7)):
  Bb W (w.heap.size+1) t1 c1∧Bb W (w.heap.size+1+1) t2 c2∧Bb W (w.heap.size+1+1+1) t3 c3∧Bb W (w.heap.size+1+1+1+1) t4 c4∧Bb W (w.heap.size+1+1+1+1+1) t5 c5∧Bb W (w.heap.size+1+1+1+1+1+1) t6 c6∧Bb W (w.heap.size+1+1+1+1+1+1+1) t7 c7∧Below w.heap.size w W∧W.heap.size=w.heap.size+8:=by
 subst h;refine⟨((((((Bb.new_ (by simp) _ _).alloc _).alloc _).alloc _).alloc _).alloc _).alloc _,(((((Bb.new_ (by simp) _ _).alloc _).alloc _).alloc _).alloc _).alloc _,((((Bb.new_ (by simp) _ _).alloc _).alloc _).alloc _).alloc _,(((Bb.new_ (by simp) _ _).alloc _).alloc _).alloc _,((Bb.new_ (by simp) _ _).alloc _).alloc _,(Bb.new_ (by simp) _ _).alloc _,Bb.new_ (by simp) _ _,?_,by simp⟩;exact((((((((Af _ _).alloc (Ae _) _).alloc (by simp) _).alloc (by simp;omega) _).alloc (by simp;omega) _).alloc (by simp;omega) _).alloc (by simp;omega) _).alloc (by simp;omega) _).alloc (by simp;omega) _
theorem sM(w:World)(kk lk n1 n2 U1 U2:Int)(u1 u2:Nat)(h1:U1=u1)(h2:U2=u2):B7 ((((((((w.alloc (.cells #[Aa Ab 1,Aa Ab 0,Aa Ac 0,.string ⟨#[]⟩,.slice none 0 0,.slice none 0 0] 34)).alloc (.cells #[.string ⟨#[]⟩,.string ⟨#[97]⟩,.string ⟨#[98]⟩] 9)).alloc (.cells #[Aa Ab 8,Aa Ab (-300),Aa Ac 0,.string ⟨#[]⟩,.slice none 0 0,.slice none 0 0,Aa Ab 6,Aa Ab 0,Aa Ac 0,.string ⟨#[195,169]⟩,.slice none 0 0,.slice none 0 0,Aa Ab 7,Aa Ab 0,Aa Ac 0,.string ⟨#[]⟩,.slice none 0 0,.slice none 0 0,Aa Ab 10,Aa Ab 0,Aa Ac 0,.string ⟨#[]⟩,.slice none 0 0,.slice none 0 0] 34)).alloc (.cells #[Aa Ab lk,Aa Ab n1,Aa Ac U1,.string ⟨#[]⟩,.slice none 0 0,.slice none 0 0,Aa Ab lk,Aa Ab n2,Aa Ac U2,.string ⟨#[]⟩,.slice none 0 0,.slice none 0 0] 34)).alloc (.cells #[.string ⟨#[97]⟩] 9)).alloc (.cells #[Aa Ab 1,Aa Ab 0,Aa Ac 0,.string ⟨#[]⟩,.slice none 0 0,.slice none 0 0] 34)).alloc (.cells #[Aa Ab 10,Aa Ab 0,Aa Ac 0,.string ⟨#[]⟩,.slice none 0 0,.slice (some ⟨w.heap.size+1+1,0,none⟩) 4 4,Aa Ab kk,Aa Ab 0,Aa Ac 0,.string ⟨#[]⟩,.slice none 0 0,.slice (some ⟨w.heap.size+1+1+1,0,none⟩) 2 2,Aa Ab 17,Aa Ab 0,Aa Ac 0,.string ⟨#[]⟩,.slice (some ⟨w.heap.size+1+1+1+1,0,none⟩) 1 1,.slice (some ⟨w.heap.size+1+1+1+1+1,0,none⟩) 1 1] 34)).alloc (.cells #[Aa Ab 17,Aa Ab 0,Aa Ac 0,.string ⟨#[]⟩,.slice (some ⟨w.heap.size+1,0,none⟩) 3 3,.slice (some ⟨w.heap.size+1+1+1+1+1+1,0,none⟩) 3 3] 34)) (fun b=>b<(((((((((w.alloc (.cells #[Aa Ab 1,Aa Ab 0,Aa Ac 0,.string ⟨#[]⟩,.slice none 0 0,.slice none 0 0] 34)).alloc (.cells #[.string ⟨#[]⟩,.string ⟨#[97]⟩,.string ⟨#[98]⟩] 9)).alloc (.cells #[Aa Ab 8,Aa Ab (-300),Aa Ac 0,.string ⟨#[]⟩,.slice none 0 0,.slice none 0 0,Aa Ab 6,Aa Ab 0,Aa Ac 0,.string ⟨#[195,169]⟩,.slice none 0 0,.slice none 0 0,Aa Ab 7,Aa Ab 0,Aa Ac 0,.string ⟨#[]⟩,.slice none 0 0,.slice none 0 0,Aa Ab 10,Aa Ab 0,Aa Ac 0,.string ⟨#[]⟩,.slice none 0 0,.slice none 0 0] 34)).alloc (.cells #[Aa Ab lk,Aa Ab n1,Aa Ac U1,.string ⟨#[]⟩,.slice none 0 0,.slice none 0 0,Aa Ab lk,Aa Ab n2,Aa Ac U2,.string ⟨#[]⟩,.slice none 0 0,.slice none 0 0] 34)).alloc (.cells #[.string ⟨#[97]⟩] 9)).alloc (.cells #[Aa Ab 1,Aa Ab 0,Aa Ac 0,.string ⟨#[]⟩,.slice none 0 0,.slice none 0 0] 34)).alloc (.cells #[Aa Ab 10,Aa Ab 0,Aa Ac 0,.string ⟨#[]⟩,.slice none 0 0,.slice (some ⟨w.heap.size+1+1,0,none⟩) 4 4,Aa Ab kk,Aa Ab 0,Aa Ac 0,.string ⟨#[]⟩,.slice none 0 0,.slice (some ⟨w.heap.size+1+1+1,0,none⟩) 2 2,Aa Ab 17,Aa Ab 0,Aa Ac 0,.string ⟨#[]⟩,.slice (some ⟨w.heap.size+1+1+1+1,0,none⟩) 1 1,.slice (some ⟨w.heap.size+1+1+1+1+1,0,none⟩) 1 1] 34)).alloc (.cells #[Aa Ab 17,Aa Ab 0,Aa Ac 0,.string ⟨#[]⟩,.slice (some ⟨w.heap.size+1,0,none⟩) 3 3,.slice (some ⟨w.heap.size+1+1+1+1+1+1,0,none⟩) 3 3] 34))).heap.size) (L9 w.heap.size) (sL kk lk n1 u1 n2 u2)∧Bb ((((((((w.alloc (.cells #[Aa Ab 1,Aa Ab 0,Aa Ac 0,.string ⟨#[]⟩,.slice none 0 0,.slice none 0 0] 34)).alloc (.cells #[.string ⟨#[]⟩,.string ⟨#[97]⟩,.string ⟨#[98]⟩] 9)).alloc (.cells #[Aa Ab 8,Aa Ab (-300),Aa Ac 0,.string ⟨#[]⟩,.slice none 0 0,.slice none 0 0,Aa Ab 6,Aa Ab 0,Aa Ac 0,.string ⟨#[195,169]⟩,.slice none 0 0,.slice none 0 0,Aa Ab 7,Aa Ab 0,Aa Ac 0,.string ⟨#[]⟩,.slice none 0 0,.slice none 0 0,Aa Ab 10,Aa Ab 0,Aa Ac 0,.string ⟨#[]⟩,.slice none 0 0,.slice none 0 0] 34)).alloc (.cells #[Aa Ab lk,Aa Ab n1,Aa Ac U1,.string ⟨#[]⟩,.slice none 0 0,.slice none 0 0,Aa Ab lk,Aa Ab n2,Aa Ac U2,.string ⟨#[]⟩,.slice none 0 0,.slice none 0 0] 34)).alloc (.cells #[.string ⟨#[97]⟩] 9)).alloc (.cells #[Aa Ab 1,Aa Ab 0,Aa Ac 0,.string ⟨#[]⟩,.slice none 0 0,.slice none 0 0] 34)).alloc (.cells #[Aa Ab 10,Aa Ab 0,Aa Ac 0,.string ⟨#[]⟩,.slice none 0 0,.slice (some ⟨w.heap.size+1+1,0,none⟩) 4 4,Aa Ab kk,Aa Ab 0,Aa Ac 0,.string ⟨#[]⟩,.slice none 0 0,.slice (some ⟨w.heap.size+1+1+1,0,none⟩) 2 2,Aa Ab 17,Aa Ab 0,Aa Ac 0,.string ⟨#[]⟩,.slice (some ⟨w.heap.size+1+1+1+1,0,none⟩) 1 1,.slice (some ⟨w.heap.size+1+1+1+1+1,0,none⟩) 1 1] 34)).alloc (.cells #[Aa Ab 17,Aa Ab 0,Aa Ac 0,.string ⟨#[]⟩,.slice (some ⟨w.heap.size+1,0,none⟩) 3 3,.slice (some ⟨w.heap.size+1+1+1+1+1+1,0,none⟩) 3 3] 34)) (w.heap.size+1+1+1+1+1+1+1) 34 (Ab7 (L9 w.heap.size))∧Below w.heap.size w ((((((((w.alloc (.cells #[Aa Ab 1,Aa Ab 0,Aa Ac 0,.string ⟨#[]⟩,.slice none 0 0,.slice none 0 0] 34)).alloc (.cells #[.string ⟨#[]⟩,.string ⟨#[97]⟩,.string ⟨#[98]⟩] 9)).alloc (.cells #[Aa Ab 8,Aa Ab (-300),Aa Ac 0,.string ⟨#[]⟩,.slice none 0 0,.slice none 0 0,Aa Ab 6,Aa Ab 0,Aa Ac 0,.string ⟨#[195,169]⟩,.slice none 0 0,.slice none 0 0,Aa Ab 7,Aa Ab 0,Aa Ac 0,.string ⟨#[]⟩,.slice none 0 0,.slice none 0 0,Aa Ab 10,Aa Ab 0,Aa Ac 0,.string ⟨#[]⟩,.slice none 0 0,.slice none 0 0] 34)).alloc (.cells #[Aa Ab lk,Aa Ab n1,Aa Ac U1,.string ⟨#[]⟩,.slice none 0 0,.slice none 0 0,Aa Ab lk,Aa Ab n2,Aa Ac U2,.string ⟨#[]⟩,.slice none 0 0,.slice none 0 0] 34)).alloc (.cells #[.string ⟨#[97]⟩] 9)).alloc (.cells #[Aa Ab 1,Aa Ab 0,Aa Ac 0,.string ⟨#[]⟩,.slice none 0 0,.slice none 0 0] 34)).alloc (.cells #[Aa Ab 10,Aa Ab 0,Aa Ac 0,.string ⟨#[]⟩,.slice none 0 0,.slice (some ⟨w.heap.size+1+1,0,none⟩) 4 4,Aa Ab kk,Aa Ab 0,Aa Ac 0,.string ⟨#[]⟩,.slice none 0 0,.slice (some ⟨w.heap.size+1+1+1,0,none⟩) 2 2,Aa Ab 17,Aa Ab 0,Aa Ac 0,.string ⟨#[]⟩,.slice (some ⟨w.heap.size+1+1+1+1,0,none⟩) 1 1,.slice (some ⟨w.heap.size+1+1+1+1+1,0,none⟩) 1 1] 34)).alloc (.cells #[Aa Ab 17,Aa Ab 0,Aa Ac 0,.string ⟨#[]⟩,.slice (some ⟨w.heap.size+1,0,none⟩) 3 3,.slice (some ⟨w.heap.size+1+1+1+1+1+1,0,none⟩) 3 3] 34)):=by
 obtain⟨d,f,i,j,k,l,m,n,o⟩:=yI (W:=((((((((w.alloc (.cells #[Aa Ab 1,Aa Ab 0,Aa Ac 0,.string ⟨#[]⟩,.slice none 0 0,.slice none 0 0] 34)).alloc (.cells #[.string ⟨#[]⟩,.string ⟨#[97]⟩,.string ⟨#[98]⟩] 9)).alloc (.cells #[Aa Ab 8,Aa Ab (-300),Aa Ac 0,.string ⟨#[]⟩,.slice none 0 0,.slice none 0 0,Aa Ab 6,Aa Ab 0,Aa Ac 0,.string ⟨#[195,169]⟩,.slice none 0 0,.slice none 0 0,Aa Ab 7,Aa Ab 0,Aa Ac 0,.string ⟨#[]⟩,.slice none 0 0,.slice none 0 0,Aa Ab 10,Aa Ab 0,Aa Ac 0,.string ⟨#[]⟩,.slice none 0 0,.slice none 0 0] 34)).alloc (.cells #[Aa Ab lk,Aa Ab n1,Aa Ac U1,.string ⟨#[]⟩,.slice none 0 0,.slice none 0 0,Aa Ab lk,Aa Ab n2,Aa Ac U2,.string ⟨#[]⟩,.slice none 0 0,.slice none 0 0] 34)).alloc (.cells #[.string ⟨#[97]⟩] 9)).alloc (.cells #[Aa Ab 1,Aa Ab 0,Aa Ac 0,.string ⟨#[]⟩,.slice none 0 0,.slice none 0 0] 34)).alloc (.cells #[Aa Ab 10,Aa Ab 0,Aa Ac 0,.string ⟨#[]⟩,.slice none 0 0,.slice (some ⟨w.heap.size+1+1,0,none⟩) 4 4,Aa Ab kk,Aa Ab 0,Aa Ac 0,.string ⟨#[]⟩,.slice none 0 0,.slice (some ⟨w.heap.size+1+1+1,0,none⟩) 2 2,Aa Ab 17,Aa Ab 0,Aa Ac 0,.string ⟨#[]⟩,.slice (some ⟨w.heap.size+1+1+1+1,0,none⟩) 1 1,.slice (some ⟨w.heap.size+1+1+1+1+1,0,none⟩) 1 1] 34)).alloc (.cells #[Aa Ab 17,Aa Ab 0,Aa Ac 0,.string ⟨#[]⟩,.slice (some ⟨w.heap.size+1,0,none⟩) 3 3,.slice (some ⟨w.heap.size+1+1+1+1+1+1,0,none⟩) 3 3] 34))) rfl;refine⟨?_,m,n⟩;generalize ((((((((w.alloc (.cells #[Aa Ab 1,Aa Ab 0,Aa Ac 0,.string ⟨#[]⟩,.slice none 0 0,.slice none 0 0] 34)).alloc (.cells #[.string ⟨#[]⟩,.string ⟨#[97]⟩,.string ⟨#[98]⟩] 9)).alloc (.cells #[Aa Ab 8,Aa Ab (-300),Aa Ac 0,.string ⟨#[]⟩,.slice none 0 0,.slice none 0 0,Aa Ab 6,Aa Ab 0,Aa Ac 0,.string ⟨#[195,169]⟩,.slice none 0 0,.slice none 0 0,Aa Ab 7,Aa Ab 0,Aa Ac 0,.string ⟨#[]⟩,.slice none 0 0,.slice none 0 0,Aa Ab 10,Aa Ab 0,Aa Ac 0,.string ⟨#[]⟩,.slice none 0 0,.slice none 0 0] 34)).alloc (.cells #[Aa Ab lk,Aa Ab n1,Aa Ac U1,.string ⟨#[]⟩,.slice none 0 0,.slice none 0 0,Aa Ab lk,Aa Ab n2,Aa Ac U2,.string ⟨#[]⟩,.slice none 0 0,.slice none 0 0] 34)).alloc (.cells #[.string ⟨#[97]⟩] 9)).alloc (.cells #[Aa Ab 1,Aa Ab 0,Aa Ac 0,.string ⟨#[]⟩,.slice none 0 0,.slice none 0 0] 34)).alloc (.cells #[Aa Ab 10,Aa Ab 0,Aa Ac 0,.string ⟨#[]⟩,.slice none 0 0,.slice (some ⟨w.heap.size+1+1,0,none⟩) 4 4,Aa Ab kk,Aa Ab 0,Aa Ac 0,.string ⟨#[]⟩,.slice none 0 0,.slice (some ⟨w.heap.size+1+1+1,0,none⟩) 2 2,Aa Ab 17,Aa Ab 0,Aa Ac 0,.string ⟨#[]⟩,.slice (some ⟨w.heap.size+1+1+1+1,0,none⟩) 1 1,.slice (some ⟨w.heap.size+1+1+1+1+1,0,none⟩) 1 1] 34)).alloc (.cells #[Aa Ab 17,Aa Ab 0,Aa Ac 0,.string ⟨#[]⟩,.slice (some ⟨w.heap.size+1,0,none⟩) 3 3,.slice (some ⟨w.heap.size+1+1+1+1+1+1,0,none⟩) 3 3] 34))=W at d f i j k l m n o⊢;generalize w.heap.size=g at d f i j k l m n o⊢;have a:∀{b:Nat},b<g+8→∀ad:Addr,some (⟨b,0,none⟩:Addr)=some ad→ad.block<W.heap.size:=fun h ad e=>by
  injection e with e
  subst e;simp only;omega
 have c:∀ad:Addr,(none:Option Addr)=some ad→ad.block<W.heap.size:=fun ad e=>by cases e
 refine Nb (vs:=[⟨10,0,0,[],none,0,0,some ⟨g+1+1,0,none⟩,4,4⟩,⟨kk,0,0,[],none,0,0,some ⟨g+1+1+1,0,none⟩,2,2⟩,⟨17,0,0,[],some ⟨g+1+1+1+1,0,none⟩,1,1,some ⟨g+1+1+1+1+1,0,none⟩,1,1⟩])
  (M1 d rfl rfl) (a (by omega)) (Ae _) (by decide) (M1 l rfl rfl) (a (by omega)) (Ae _) (by decide) (Hg.cons ?_ (Hg.cons ?_ (Hg.cons ?_ Hg.nil)))
 ·exact Nb (vs:=[⟨8, -300,0,[],none,0,0,none,0,0⟩,⟨6,0,0,[195,169],none,0,0,none,0,0⟩,⟨7,0,0,[],none,0,0,none,0,0⟩,⟨10,0,0,[],none,0,0,none,0,0⟩]) (Is.nil _ _) c (Ae _) (by decide) (M1 f rfl rfl) (a (by omega)) (Ae _) (by decide) (Hg.cons (Jy _ _ _ _) (Hg.cons (Jy _ _ _ _) (Hg.cons (Jy _ _ _ _) (Hg.cons (Jy _ _ _ _) Hg.nil))))
 ·exact Nb (vs:=[⟨lk,n1,u1,[],none,0,0,none,0,0⟩,⟨lk,n2,u2,[],none,0,0,none,0,0⟩]) (Is.nil _ _) c (Ae _) (by decide) (M1 i rfl (by rw [h1,h2];rfl)) (a (by omega)) (Ae _) (by decide) (Hg.cons (Jy _ _ _ _) (Hg.cons (Jy _ _ _ _) Hg.nil))
 ·exact Nb (vs:=[⟨1,0,0,[],none,0,0,none,0,0⟩]) (M1 j rfl rfl) (a (by omega)) (Ae _) (by decide) (M1 k rfl rfl) (a (by omega)) (Ae _) (by decide) (Hg.cons (Jy _ _ _ _) Hg.nil)
end
end Go.Proofs.YtejpbijeifjdeaaGreat
