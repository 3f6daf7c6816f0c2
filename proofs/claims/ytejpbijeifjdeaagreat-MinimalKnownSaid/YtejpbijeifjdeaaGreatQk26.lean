/- Parts of the proof. -/
import Derived.Test.YtejpbijeifjdeaaGreatQk25
import Derived.Lib.SlicesCompact
import Derived.Deep.LoopGhost
set_option maxHeartbeats 4000000
set_option maxRecDepth 100000
open Go.Value renaming int→Aa
open Go.IntKind renaming i64→Ab
open Nat renaming le_refl→Ae
open Go.RowKit.Below renaming refl→Af
open Go.IntWalk renaming i64_in→Ag
open List renaming replicate→Ak,length_take→Au,length_cons→Av,append_assoc→Aw
open Go.Proofs.Tryz
open Go.Proofs.Tryz renaming prog→Ad
namespace Go.Acc
open Go.RowKit Go.Sort Go.Proofs
section
variable {α:Type} {f:α→List Value} {sz:Nat} {w:World} {B g n c:Nat} {e:TypeId} {l:List α} {P:Program}
theorem aY(t ty:TypeId)(z:Value)(ht:P.underlying t=some (.slice e))(hv:∀W,(zeroValue e).run P W= .ok z W)(hzs:z.cells.size=sz)(hz1:∀u∈z.cells.toList,u.oneCell'=true)(hf:∀x,(f x).length=sz)
  (h:Own f sz e w B (some ⟨g,0,none⟩) n c l) (k cc:Nat) (hk:k<n):
  ∃w',(Builtin.clear_ #[t] ty #[.slice (some ⟨g,k*sz,none⟩) (n-k) cc]).run P w= .ok (.tuple #[]) w'∧Own f sz e w' B (some ⟨g,0,none⟩) k c (l.take k)∧Fr (fun k=>k=g) w w':=by
 have s:∃cur,Bh w g e cur∧cur.size=c*sz∧cur.toList.take (n*sz)=l.flatMap f∧n≤c∧c≤maxLen∧B≤g:=by
  rcases h.2.2 with⟨hv,_⟩|⟨H,D,cur,hv,q,s,d,b,r,a⟩
  ·cases hv
  ·injection hv with h1 h2 h3
   injection h1 with h1
   injection h1 with h1
   subst h1 h3;exact⟨cur,s,r,a,d,b,q⟩
 obtain⟨cur,y,E,a,d,b,q⟩:=s;have A:(Builtin.zeroCells z.cells (n-k)).toList.length=(n-k)*sz:=by rw [Array.length_toList,size_zeroCells,hzs]
 have F:k*sz+(n-k)*sz=n*sz:=by rw [←Nat.add_mul];congr 1;omega
 have G:n*sz≤c*sz:=Nat.mul_le_mul_right _ d;have j:=run_storeCells_at P g (k*sz) e (Builtin.zeroCells z.cells (n-k)).toList 0 cur w y (by rw [A];omega) (by
  intro u C;simp only [Builtin.zeroCells,Array.toList_map,List.mem_map] at C;obtain⟨i,hi,rfl⟩:=C;have o:i<(n-k)*z.cells.size:=by simpa using hi
  have h0:0<z.cells.size:=by
   rcases Nat.eq_zero_or_pos z.cells.size with h|h
   ·rw [h] at o;simp at o
   ·exact h
  have p:i % z.cells.size<z.cells.size:=Nat.mod_lt _ h0;rw [getElem!_pos z.cells _ p];exact hz1 _ (by simp))
 simp only [Nat.add_zero] at j;obtain⟨m,v⟩:∃m,n-k=m+1:=⟨n-k-1,by omega⟩;refine⟨w.setRow g (cur.toList.take (k*sz)++(Builtin.zeroCells z.cells (n-k)).toList++cur.toList.drop (k*sz+(Builtin.zeroCells z.cells (n-k)).toList.length)).toArray,?_,⟨by rw [Au,h.1];omega,?_,.inr ⟨g,c,_,rfl,q,setRow_heap w g cur _ e _ y,by omega,b,?_,?_⟩⟩,⟨rfl,rfl,rfl,by simp [World.setRow],fun i _ hi=>setRow_other w g i _ (by rintro rfl;exact hi rfl)⟩⟩
 ·rw [v] at j⊢;simp [Builtin.clear_,run_underlying ht,hv,j]
 ·rw [Cd hf,Au,h.1,Nat.min_eq_left (by omega)]
 ·simp only [List.size_toArray,List.length_append,Au,List.length_drop,Array.length_toList];rw [Array.length_toList] at A;omega
 ·rw [M9 hf,←a,List.take_take,Aw,List.take_append_of_le_length (by rw [Au,Array.length_toList];omega),List.take_take]
  congr 1
  omega
end
end Go.Acc
namespace Go.Proofs.YtejpbijeifjdeaaGreat
variable {w:World}{B g n c k:Nat}{d:Array P3}{a b e p q t v fuel:Int}{l:List UInt8}
section
open Go.RowKit Go.Acc Go.Lib
theorem jS:∀(x y:P3) (W:World),(Op.equal 46 (G2 x) (G2 y)).run Ad W= .ok (decide (x=y)) W:=by
 rintro⟨a,b,c⟩ ⟨a',b',c'⟩ W;by_cases h1:a=a' <;>by_cases h2:b=b' <;>by_cases h3:c=c' <;>(simp only [G2];(change (Op.equalIn 10000 _ _ _).run Ad W=_);go_simp)
theorem Q5(x y:P3)(b:Bool)(h:decide (x=y)=b):∀W:World,(binOp .eql 46 (.agg #[Aa Ab x.1,Aa Ab x.2.1,Aa Ab x.2.2]) (.agg #[Aa Ab y.1,Aa Ab y.2.1,Aa Ab y.2.2])).run Ad W= .ok (.bool b) W:=by
 intro W;subst h;rw [run_eql_struct];have h1:(Op.equalIn 10000 46 (.agg #[Aa Ab x.1,Aa Ab x.2.1,Aa Ab x.2.2]) (.agg #[Aa Ab y.1,Aa Ab y.2.1,Aa Ab y.2.2])).run Ad W=_:=jS x y W;rw [h1];rfl
theorem eP(x y:P3)(b:Bool)(h:(!decide (x=y))=b):∀W:World,(binOp .neq 46 (.agg #[Aa Ab x.1,Aa Ab x.2.1,Aa Ab x.2.2]) (.agg #[Aa Ab y.1,Aa Ab y.2.1,Aa Ab y.2.2])).run Ad W= .ok (.bool b) W:=by
 intro W;subst h;rw [run_neq_struct];have h1:(Op.equalIn 10000 46 (.agg #[Aa Ab x.1,Aa Ab x.2.1,Aa Ab x.2.2]) (.agg #[Aa Ab y.1,Aa Ab y.2.1,Aa Ab y.2.2])).run Ad W=_:=jS x y W;rw [h1];rfl
theorem tail_run(g n c k:Nat)(hk:k<n)(hc:n≤c):∀w,(Instr.sliceAt 42 (.slice (some ⟨g,0,none⟩) n c) (some (Aa Ab k)) none none).run Ad w= .ok (.slice (some ⟨g,k*3,none⟩) (n-k) (c-k)) w:=by
 intro w;have ht:Ad.underlying 42=some (.slice (Ad.elem 42)):=by kernel_rfl
 have a:(sizeOf (Ad.elem 42)).run Ad w= .ok 3 w:=by kernel_rfl
 rw [run_sliceAt_slice (h:=ht),run_slice_l (ht:=ht) (h0:=by omega) (h1:=by omega),a];simp [Result.andThen,sliced,I2];omega
theorem head_run(g n c k:Nat)(hk:k≤c):∀w,(Instr.sliceAt 42 (.slice (some ⟨g,0,none⟩) n c) none (some (Aa Ab k)) none).run Ad w= .ok (.slice (some ⟨g,0,none⟩) k c) w:=by
 intro w;have ht:Ad.underlying 42=some (.slice (Ad.elem 42)):=by kernel_rfl
 have a:(sizeOf (Ad.elem 42)).run Ad w= .ok 3 w:=by kernel_rfl
 rw [run_sliceAt_slice (h:=ht),run_slice_h (ht:=ht) (h0:=by omega) (h2:=by omega),a];simp [Result.andThen,sliced,Addr.add]
theorem Tp(h:F5 w B (some ⟨g,0,none⟩) n c d.toList)(hk:k<n)(hx:d[k]! =(a,b,e)):
  (w.cell? ⟨g,k*3,none⟩=some (Aa Ab a)∧w.cell? ⟨g,k*3+1,none⟩=some (Aa Ab b)∧w.cell? ⟨g,k*3+2,none⟩=some (Aa Ab e))∧w.frozen? ⟨g,k*3,none⟩=false∧w.frozen? ⟨g,k*3+1,none⟩=false∧w.frozen? ⟨g,k*3+2,none⟩=false:=by
 obtain⟨m,l,f,i,h1⟩:=h.is.at_ Gv (by omega) hk;injection f with f
 injection f with f e2
 subst f e2;have j:d.toList[k]=(a,b,e):=by
  rw [←hx,getElem!_pos d k (by simpa using i)];simp
 rw [j] at h1;have h0:=h1 0 (by omega);have h2:=h1 1 (by omega);have h3:=h1 2 (by omega);simp only [Nat.zero_add,Nat.add_zero] at h0 h2 h3;exact⟨⟨h0,h2,h3⟩,K4 h.2 _,K4 h.2 _,K4 h.2 _⟩
theorem vC(h:F5 w B (some ⟨g,0,none⟩) n c d.toList)(hk:k<n)(a b e:Int):
  F5 (((w.setCell ⟨g,k*3,none⟩ (Aa Ab a)).setCell ⟨g,k*3+1,none⟩ (Aa Ab b)).setCell ⟨g,k*3+2,none⟩ (Aa Ab e)) B (some ⟨g,0,none⟩) n c (d.setIfInBounds k (a,b,e)).toList:=by
 have m:d.toList.length=n:=h.1;refine⟨by simpa using m,?_⟩;have h1:=((h.2.stored (k*3) (Aa Ab a)).1.stored (k*3+1) (Aa Ab b)).1.stored (k*3+2) (Aa Ab e);have p:(d.setIfInBounds k (a,b,e)).toList.flatMap pc=(((d.toList.flatMap pc).set (k*3) (Aa Ab a)).set (k*3+1) (Aa Ab b)).set (k*3+2) (Aa Ab e):=by
  apply List.ext_getElem?;intro j;simp only [List.getElem?_set,List.length_set,Cd Gv,m,Array.toList_setIfInBounds];by_cases s:j<n*3
  ·have i:j/3<n:=Nat.div_lt_of_lt_mul (by omega);have f:j % 3<3:=Nat.mod_lt _ (by omega);have l:j=j/3*3+j % 3:=by omega
   rw [l];generalize j/3=q at i;generalize j % 3=r at f;rw [Ic Gv _ q r (by rw [List.length_set];omega) f,Ic Gv _ q r (by omega) f,List.getElem_set];by_cases o:k=q
   ·subst o;rw [if_pos rfl];have:r=0∨r=1∨r=2:=by omega
    rcases this with rfl|rfl|rfl
    ·simp [pc];omega
    ·simp [pc];omega
    ·simp [pc];omega
   ·rw [if_neg o,if_neg (by omega),if_neg (by omega),if_neg (by omega)]
  ·rw [List.getElem?_eq_none (by rw [Cd Gv,List.length_set];omega),if_neg (by omega),if_neg (by omega),if_neg (by omega),List.getElem?_eq_none (by rw [Cd Gv];omega)]
 rw [p];exact h1.1
end
section
open Go.RowKit Go.Acc Go.Lib Go.Sort
theorem Vm{o:Nat}(h:F5 w B (some ⟨g,0,none⟩) n c d.toList)(hk:k<n)(hx:d[k]! =(a,b,e))(ho:k*3=o):
  w.cell? ⟨g,o,none⟩=some (Aa Ab a)∧w.cell? ⟨g,o+1,none⟩=some (Aa Ab b)∧w.cell? ⟨g,o+2,none⟩=some (Aa Ab e):=by
 subst ho;exact(Tp h hk hx).1
theorem yY(h:F5 w B (some ⟨g,0,none⟩) n c d.toList)(k:Nat)(hk:k<n):
  (w.frozen? ⟨g,k*3,none⟩=false∧w.frozen? ⟨g,k*3+1,none⟩=false∧w.frozen? ⟨g,k*3+2,none⟩=false):=by
 obtain⟨⟨a,b,e⟩,hx⟩:∃x,d[k]! =x:=⟨_,rfl⟩;exact(Tp h hk hx).2
theorem R7(d:Array P3)(h:∀j,j<d.size→keeps d j=true):compactUpTo d d.size=d.toList:=by
 rw [compactUpTo_all d d.size h,range_map_get]
theorem gG(d:Array P3)(h:d.size<2):compactUpTo d d.size=d.toList:=by
 rw [compactUpTo_all d d.size (fun j hj=>keeps_lt_one d j (by omega)),range_map_get]
theorem cE(B g n c:Nat)(d:Array P3)(w:World)(h:F5 w B (some ⟨g,0,none⟩) n c d.toList)(hn:n≤2147483648):
  Calls Ad 84 #[.slice (some ⟨g,0,none⟩) n c] w fun e w'=>∃k,k=(compactUpTo d d.size).length∧e= .returned (.slice (some ⟨g,0,none⟩) k c)∧F5 w' B (some ⟨g,0,none⟩) k c (compactUpTo d d.size)∧Fr (fun k=>k=g) w w':=by
 have v:d.size=n:=by rw [←Array.length_toList];exact h.1
 have z:=h.cap.1;by_cases h2:n<2
 ·have aj:decide ((n:Int)<2)=true:=decide_eq_true (by omega);have Y:=Hd h;have t:=Hd v;have HC:=Hd (gG d (by omega));clear h v;go_enter func84,ntmps84;go_wp2;go_ret;refine⟨n,?_,rfl,?_,Fr.refl _ _⟩
  ·rw [HC.o,Array.length_toList,t.o]
  ·rw [HC.o];exact Y.o
 ·have aj:decide ((n:Int)<2)=false:=decide_eq_false (by omega);have Y:=Hd h;have t:=Hd v;clear h v;go_enter func84,ntmps84;go_wp2;go_loopg [3] n (fun gg s3 wr=>∃k:Nat,1≤k∧k≤n∧n-k≤gg∧s3= Aa Ab k∧F5 wr B (some ⟨g,0,none⟩) n c d.toList∧Fr (fun k=>k=g) w wr∧∀j,j<k→keeps d j=true)
  case atStart=>exact⟨1,Ae _,by omega,by omega,rfl,Y.o,Fr.refl _ _,keeps_lt_one d⟩
  case round=>
   obtain⟨k,Q,hk,hg,rfl,F,E,l⟩:=hrel;obtain⟨j,rfl⟩:∃j,k=j+1:=⟨k-1,by omega⟩;by_cases T:j+1<n
   ·obtain⟨⟨x0,x1,x2⟩,hx⟩:∃x,d[j+1]! =x:=⟨_,rfl⟩;obtain⟨⟨y0,y1,y2⟩,hy⟩:∃x,d[j]! =x:=⟨_,rfl⟩;have A:=Hd l;have HX:=Hd hx;have HY:=Hd hy;have p:=Hd F;have u:=Hd E;clear l hx hy F E Y;obtain⟨⟨a0,a1,a2⟩,_⟩:=Tp p.o T HX.o;obtain⟨⟨b0,b1,b2⟩,_⟩:=Tp p.o (show j<n by omega) HY.o;have V:IntKind.i64.wrap (j:Int)=(j:Int):=Ag _ (by omega);have M:0≤(j:Int)+1:=by omega
    have N:(j:Int)+1<(n:Int):=by omega
    have O:((j:Int)+1).toNat=j+1:=by omega
    have al:j<n:=by omega
    have X:IntKind.i64.wrap ((j:Int)+1+1)=(j:Int)+1+1:=Ag _ (by omega);by_cases s:(x0,x1,x2)=(y0,y1,y2)
    ·have y:=Q5 (x0,x1,x2) (y0,y1,y2) true (decide_eq_true s);have Z:=Hd s;have ht:=tail_run g n c (j+1) T z;simp only [Int.natCast_add,Int.cast_ofNat_Int] at ht;clear s;go_wp2_with fail;go_quiet (fail);go_wp2_with fail;have a:=Hd (p.o.pure (below_drewN (Af _ _) nq));have f:=Hd (u.o.drewN nq);have q:CompInv d (j+1+1) (j+1) d:=CompInv.start A.o (keeps_neg (by omega) (by rw [Nat.add_sub_cancel,HX.o,HY.o];exact Z.o));have b:=Hd q;generalize wr.drewN nq=wa at a f⊢;clear a0 a1 a2 b0 b1 b2 q y V M N O X;go_loopg [3,5] n (fun gg s3 s5 wr=>∃(m k:Nat) (dk:Array P3),j+1+(m+1)≤n∧n-m≤gg∧s3= Aa Ab k∧s5= Aa Ab ((m:Int)+1)∧CompInv d (j+1+(m+1)) k dk∧F5 wr B (some ⟨g,0,none⟩) n c dk.toList∧Fr (fun k=>k=g) w wr)
     case atStart=>exact⟨0,j+1,d,by omega,by omega,by go_num,by go_num,b.o,a.o,f.o⟩
     case round=>
      clear b a f;obtain⟨m,k,dk,hm,bk,rfl,rfl,q,F,E⟩:=hrel;have a:=Hd F;have f:=Hd E;have bd:=q.lt;have b:=Hd q;clear F E q;by_cases U:j+1+(m+1)<n
      ·obtain⟨⟨H,I,J⟩,hp⟩:∃x,d[j+1+(m+1)]! =x:=⟨_,rfl⟩;obtain⟨⟨q0,q1,q2⟩,hq⟩:∃x,d[j+1+m]! =x:=⟨_,rfl⟩;obtain⟨a0,a1,a2⟩:=Vm a.o U ((b.o.high _ (by omega)).trans hp) (show(j+1+(m+1))*3=(j+1)*3+(m+1)*3 by omega);obtain⟨b0,b1,b2⟩:=Vm a.o (show j+1+m<n by omega) ((b.o.high _ (by omega)).trans hq) (show(j+1+m)*3=(j+1)*3+m*3 by omega);obtain⟨⟨r0,r1,r2⟩,hr⟩:∃x,dk[k]! =x:=⟨_,rfl⟩;obtain⟨c0,c1,c2⟩:=Vm a.o (show k<n by omega) hr rfl;obtain⟨z0,z1,z2⟩:=yY a.o k (by omega);clear hr;have HP:=Hd hp;have HQ:=Hd hq;clear hp hq;have V:IntKind.i64.wrap (m:Int)=(m:Int):=Ag _ (by omega);have M:0≤(m:Int)+1:=by omega
       have N:(m:Int)+1<((n-(j+1):Nat):Int):=by omega
       have O:((m:Int)+1).toNat=m+1:=by omega
       have al:m<n-(j+1):=by omega
       have Q:k<n:=by omega
       have X:IntKind.i64.wrap ((m:Int)+1+1)=(m:Int)+1+1:=Ag _ (by omega);have bo:IntKind.i64.wrap ((k:Int)+1)=(k:Int)+1:=Ag _ (by omega);by_cases r:(H,I,J)=(q0,q1,q2)
       ·have y:=eP (H,I,J) (q0,q1,q2) false (by rw [decide_eq_true r];rfl);have D:=Hd r;clear r;go_wp2_with fail;go_quiet (fail);go_wp2_with fail;go_roundg (n-(m+1))
        case measure=>omega
        case rel=>
         refine⟨m+1,k,dk,by omega,by omega,by go_num,by go_num,?_,a.o.pure (below_drewN (Af _ _) _),f.o.drewN _⟩;exact b.o.skip (keeps_neg (by omega) (by rw [HP.o,show j+1+(m+1)-1=j+1+m by omega,HQ.o];exact D.o))
       ·have y:=eP (H,I,J) (q0,q1,q2) true (by rw [decide_eq_false r];rfl);have D:=Hd r;clear r;go_wp2_with fail;go_quiet (fail);go_wp2_with fail;have HS:=Hd (vC (a.o.pure (below_drewN (Af _ _) nq)) Q H I J);have hf:Fr (fun k=>k=g) w ((((wr.drewN nq).setCell ⟨g,k*3,none⟩ (Aa Ab H)).setCell ⟨g,k*3+1,none⟩ (Aa Ab I)).setCell ⟨g,k*3+2,none⟩ (Aa Ab J)):=(((f.o.drewN nq).setCell (fun _=>rfl) _).setCell (fun _=>rfl) _).setCell (fun _=>rfl) _;have ab:=Hd hf;clear hf;go_roundg (n-(m+1))
        case measure=>omega
        case rel=>
         refine⟨m+1,k+1,dk.setIfInBounds k (H,I,J),by omega,by omega,by go_num,by go_num,?_,HS.o,ab.o⟩;have:=b.o.keep (by rw [t.o];omega) (keeps_pos (by rw [HP.o,show j+1+(m+1)-1=j+1+m by omega,HQ.o];exact D.o));rw [HP.o] at this;exact this
      ·have G:j+1+(m+1)=n:=by omega
       have R:k<n:=by omega
       have bn:=tail_run g n c k R z;have bl:=head_run g n c k (by omega);have hz:∀W:World,(zeroValue 46).run Ad W= .ok (.agg #[Aa Ab 0,Aa Ab 0,Aa Ab 0]) W:=by intro W;go_simp
       obtain⟨w',hcl,L,K⟩:=aY (P:=Ad) (sz:=3) 42 0 (.agg #[Aa Ab 0,Aa Ab 0,Aa Ab 0]) underlying42 hz rfl (by decide) Gv a.o k (c-k) R;have af:=Hd L;have aa:=Hd (f.o.trans K (fun _ _ h=>h));have S:(compactUpTo d d.size).length=k:=by rw [t.o,←G];exact b.o.len
       have C:compactUpTo d d.size=dk.toList.take k:=by
        have bm:dk.size=n:=by rw [b.o.size,t.o]
        apply List.ext_getElem?;intro i;by_cases hi:i<k
        ·have h1:=b.o.low i hi;rw [G,←t.o] at h1;rw [h1,List.getElem?_take_of_lt hi,getElem!_pos dk i (by omega)];simp
        ·rw [List.getElem?_eq_none (by omega),List.getElem?_eq_none (by rw [Au];omega)]
       have HL:=Hd C;have ad:=Hd S;clear L K hz S C G;go_wp2_with fail;go_ret;refine⟨k,ad.o.symm,rfl,?_,aa.o⟩;rw [HL.o];exact af.o
    ·have y:=Q5 (x0,x1,x2) (y0,y1,y2) false (decide_eq_false s);have ae:=Hd s;clear s;go_wp2_with fail;go_quiet (fail);go_wp2_with fail;go_roundg (n-(j+2))
     case measure=>omega
     case rel=>
      refine⟨j+2,by omega,by omega,by omega,by go_num,p.o.pure (below_drewN (Af _ _) _),u.o.drewN _,?_⟩;intro i hi;by_cases e:i=j+1
      ·subst e;exact keeps_pos (by rw [Nat.add_sub_cancel,HX.o,HY.o];exact ae.o)
      ·exact A.o i (by omega)
   ·obtain rfl:n=j+1:=by omega
    have HA:=Hd l;clear l;have p:=Hd F;have u:=Hd E;clear F E;go_wp2_with fail;go_ret;refine⟨j+1,?_,rfl,?_,u.o⟩
    ·rw [R7 d (by rw [t.o];exact HA.o),Array.length_toList,t.o]
    ·rw [R7 d (by rw [t.o];exact HA.o)];exact p.o
theorem M1(x:P3):¬Fm x x:=by unfold Fm;omega
theorem Sv{x y z:P3}(h1:Fm x y)(h2:Fm y z):Fm x z:=by unfold Fm at *;omega
theorem Su(x y:P3):Fm x y∨x=y∨Fm y x:=by
 obtain⟨a,b,c⟩:=x;obtain⟨a',b',c'⟩:=y;unfold Fm;simp only [Prod.mk.injEq];omega
def Gi(x:P3):List P3→List P3
 | []=>[x]
 |y::l=>if Fm y x then y::Gi x l else if y=x then y::l else x::y::l
def Db(l:List P3):List P3:=l.foldl (fun m x=>Gi x m) []
abbrev Kb(l:List P3):Prop:=l.Pairwise Fm
theorem Ve(x y:P3):∀l,y∈Gi x l↔y=x∨y∈l
 | []=>by simp [Gi]
 |z::l=>by
  unfold Gi;split
  ·rw [List.mem_cons,Ve x y l,List.mem_cons];constructor
   ·rintro(h|h|h)
    ·exact .inr (.inl h)
    ·exact .inl h
    ·exact .inr (.inr h)
   ·rintro(h|h|h)
    ·exact .inr (.inl h)
    ·exact .inl h
    ·exact .inr (.inr h)
  ·split
   ·rename_i h;subst h;simp
   ·simp
theorem Uh(x:P3):∀l,Kb l→Kb (Gi x l)
 | [],_=>by simp [Gi]
 |y::l,h=>by
  have b:=List.pairwise_cons.1 h;unfold Gi;split
  ·rename_i hyx;refine List.pairwise_cons.2 ⟨fun z hz=>?_,Uh x l b.2⟩;rcases(Ve x z l).1 hz with rfl|hz
   ·exact hyx
   ·exact b.1 z hz
  ·split
   ·exact h
   ·rename_i h1 h2;have a:Fm x y:=by
     rcases Su x y with h|h|h
     ·exact h
     ·exact absurd h.symm h2
     ·exact absurd h h1
    refine List.pairwise_cons.2 ⟨fun z hz=>?_,h⟩;rcases List.mem_cons.1 hz with rfl|hz
    ·exact a
    ·exact Sv a (b.1 z hz)
theorem aV(l:List P3)(x:P3):Db (l++ [x])=Gi x (Db l):=by simp [Db]
theorem Ug:∀(l m:List P3),Kb m→Kb (l.foldl (fun m x=>Gi x m) m)
 | [],_,h=>h
 |x::l,m,h=>Ug l (Gi x m) (Uh x m h)
theorem eH(y:P3):∀(l m:List P3),y∈l.foldl (fun m x=>Gi x m) m↔y∈m∨y∈l
 | [],m=>by simp
 |x::l,m=>by
  rw [List.foldl_cons,eH y l,Ve,List.mem_cons];constructor
  ·rintro((h|h)|h)
   ·exact .inr (.inl h)
   ·exact .inl h
   ·exact .inr (.inr h)
  ·rintro(h|h|h)
   ·exact .inl (.inr h)
   ·exact .inl (.inl h)
   ·exact .inr h
theorem aZ(l:List P3):Kb (Db l):=Ug l [] List.Pairwise.nil
theorem mP(y:P3)(l:List P3):y∈Db l↔y∈l:=by rw [Db,eH];simp
theorem X0:∀(l m:List P3),Kb l→Kb m→(∀x,x∈l↔x∈m)→l=m
 | [],[],_,_,_=>rfl
 | [],y::m,_,_,h=>by have:=(h y).2 (by simp);simp at this
 |x::l,[],_,_,h=>by have:=(h x).1 (by simp);simp at this
 |x::l,y::m,hl,hm,h=>by
  have b:=List.pairwise_cons.1 hl;have c:=List.pairwise_cons.1 hm;have f:x=y:=by
   rcases List.mem_cons.1 ((h x).1 (by simp)) with e|e
   ·exact e
   ·rcases List.mem_cons.1 ((h y).2 (by simp)) with d|d
    ·exact d.symm
    ·exact absurd (Sv (b.1 y d) (c.1 x e)) (M1 x)
  subst f
  congr 1
  refine X0 l m b.2 c.2 fun z=>?_
  have g:=h z;rw [List.mem_cons,List.mem_cons] at g;constructor
  ·intro a;rcases g.1 (.inr a) with e|e
   ·subst e;exact absurd (b.1 z a) (M1 z)
   ·exact e
  ·intro a;rcases g.2 (.inr a) with e|e
   ·subst e;exact absurd (c.1 z a) (M1 z)
   ·exact e
theorem Pb(d:Array P3):∀m,m≤d.size→∀x,x∈compactUpTo d m↔∃j,j<m∧d[j]! =x
 |0,_,x=>by simp [compactUpTo]
 |m+1,hm,x=>by
  rw [compactUpTo_succ,List.mem_append,Pb d m (by omega) x];constructor
  ·rintro(⟨j,f,e⟩|h)
   ·exact⟨j,by omega,e⟩
   ·split at h
    ·exact⟨m,by omega,(List.mem_singleton.1 h).symm⟩
    ·cases h
  ·rintro⟨j,f,e⟩;by_cases a:j=m
   ·subst a;by_cases b:keeps d j=true
    ·right;rw [if_pos b];simp [e]
    ·left;have h0:j≠0:=by rintro rfl;exact b (by simp [keeps])
     refine⟨j-1,by omega,?_⟩;by_cases c:d[j]! =d[j-1]!
     ·rw [←c,e]
     ·exact absurd (keeps_pos c) b
   ·exact .inl ⟨j,by omega,e⟩
theorem P4(d:Array P3)(hs:∀i j,i<j→j<d.size→¬Fm d[j]! d[i]!):∀m,m≤d.size→Kb (compactUpTo d m)
 |0,_=>by simp [compactUpTo]
 |m+1,hm=>by
  rw [compactUpTo_succ];refine List.pairwise_append.2 ⟨P4 d hs m (by omega),by split <;>simp,?_⟩;intro x b y hy;split at hy
  ·rename_i hk;obtain rfl:=List.mem_singleton.1 hy;obtain⟨j,c,rfl⟩:=(Pb d m (by omega) x).1 b;have a:d[m]! ≠d[m-1]! :=by
    unfold keeps at hk;rcases of_decide_eq_true hk with h|h
    ·omega
    ·exact h
   have h1:=hs (m-1) m (by omega) (by omega);have h2:Fm d[m-1]! d[m]! :=by
    rcases Su d[m-1]! d[m]! with h|h|h
    ·exact h
    ·exact absurd h.symm a
    ·exact absurd h h1
   by_cases e:j=m-1
   ·subst e;exact h2
   ·have h3:=hs j (m-1) (by omega) (by omega);rcases Su d[j]! d[m-1]! with h|h|h
    ·exact Sv h h2
    ·rw [h];exact h2
    ·exact absurd h h3
  ·cases hy
theorem Yi(l m:List P3)(hp:m.Perm l)(hr:oI m):compactUpTo m.toArray m.toArray.size=Db l:=by
 refine X0 _ _ (P4 _ ?_ _ (Ae _)) (aZ l) fun x=>?_
 ·intro i j c b;have a:j<m.length:=by simpa using b
  have:=hr i j (by omega) a c;rw [getElem!_pos m.toArray j (by simpa using a),getElem!_pos m.toArray i (by simp;omega)];simpa using this
 ·rw [Pb _ _ (Ae _),mP,←hp.mem_iff,List.mem_iff_getElem];constructor
  ·rintro⟨j,b,e⟩;have a:j<m.length:=by simpa using b
   rw [getElem!_pos m.toArray j b] at e;exact⟨j,a,by simpa using e⟩
  ·rintro⟨j,b,e⟩;refine⟨j,by simpa using b,?_⟩;rw [getElem!_pos m.toArray j (by simpa using b)];simpa using e
end
section
open Go.RowKit Go.Acc
def Aby(n:Nat)(x:P3):Prop:=0≤x.1∧x.1<x.2.1∧x.2.1≤n∧1≤x.2.2∧x.2.2≤14
def Ev(n:Nat)(s s':Bk):Prop:=∃t,s'.o=s.o++t∧∀x∈t,Aby n x
theorem Ev.refl(n:Nat)(s:Bk):Ev n s s:=⟨[],by simp,by simp⟩
theorem Ev.trans{s s' s'':Bk}(h:Ev n s s')(h':Ev n s' s''):Ev n s s'':=by
 obtain⟨t,e,g⟩:=h;obtain⟨t',e',g'⟩:=h';refine⟨t++t',by rw [e',e,Aw],fun x hx=>?_⟩;rcases List.mem_append.1 hx with hx|hx
 ·exact g x hx
 ·exact g' x hx
theorem Gl(s:Bk){c:Int}(ha:0≤a)(hb:b≤n)(hc:1≤c∧c≤14):Ev n s (s.tell a b c):=by
 unfold Bk.tell;split
 ·rename_i h;exact⟨[(a,b,c)],rfl,fun x hx=>by rw [List.mem_singleton.1 hx];exact⟨ha,h,hb,hc.1,hc.2⟩⟩
 ·exact Ev.refl n s
def Ph(l:List UInt8)(go:Rq→Bk→Bk×Int):Prop:=∀r s,Lh l.length r→Ev l.length s (go r s).1
theorem mA{ts:List Nat}(h:C6 l p q t v ts=0):Cb l.length p q t v=0∧Ll ts t=true∧B7 l p q t v=0∧(if t=4 then I8 l (By l p q t v).toNat else Fs l (By l p q t v).toNat v.toNat (if t=5 then 1 else 0))=0:=by
 unfold C6 at h;split at h
 ·rename_i h1;exact absurd h h1
 ·rename_i h1;split at h
  ·cases h
  ·rename_i h2;split at h
   ·rename_i h3;exact absurd h h3
   ·rename_i h3;refine⟨by simpa using h1,by simpa using h2,by simpa using h3,?_⟩;split at h
    ·rename_i h4;rw [if_pos h4];exact h
    ·rename_i h4;rw [if_neg h4];exact h
theorem aP(h:C6 l p q t v [4,5,25]=0):
  0≤D1 l p q t v [4,5,25]∧D1 l p q t v [4,5,25]+(Dx l p q t v [4,5,25]).length≤l.length∧(t=4∨t=5→D1 l p q t v [4,5,25]+(Dx l p q t v [4,5,25]).length+1≤l.length)∧
  (t≠4→v≤D1 l p q t v [4,5,25])∧1≤v∧D1 l p q t v [4,5,25]=By l p q t v:=by
 obtain⟨h1,h2,i,j,f⟩:=My h;obtain⟨_,_,h3,h4⟩:=mA h;have g:=(Xf f).2;have ht:=Iv h3;have c:D1 l p q t v [4,5,25]=By l p q t v:=by unfold D1;rw [if_pos h]
 have b:Dx l p q t v [4,5,25]=if t=4 then Ln l (By l p q t v).toNat else Ky l (By l p q t v).toNat v.toNat:=by unfold Dx;rw [if_pos h]
 refine⟨h1,h2,?_,?_,g.1,c⟩
 ·intro d;by_cases a:t=4
  ·rw [if_pos a] at h4 b;unfold I8 at h4;split at h4
   ·rename_i hz;rw [c,b];unfold Ln;rw [Au,List.length_drop];have m:=(Td (l:=l) (k:=(By l p q t v).toNat) (by omega)).1;omega
   ·cases h4
  ·rw [if_neg a] at h4 b;have e:t=5:=by omega
   rw [if_pos e] at h4;unfold Fs at h4;split at h4
   ·cases h4
   ·split at h4
    ·cases h4
    ·split at h4
     ·cases h4
     ·rw [c,b];unfold Ky;rw [Au,List.length_drop];omega
 ·intro a;rw [if_neg a] at h4;unfold Fs at h4;split at h4
  ·cases h4
  ·split at h4
   ·cases h4
   ·rw [c];omega
theorem Qd(h:F7 l p q t v=0):0≤F6 l p q t v∧F6 l p q t v+G3 l p q t v≤l.length∧0≤G3 l p q t v:=by
 unfold F6 G3;rw [if_pos h,if_pos h];rcases Ox l p q t v with⟨b,e⟩|⟨b,c⟩
 ·rw [e] at h;exact absurd h b
 have f:=Xf b;obtain⟨⟨h0,h1,h2,h3⟩,i,j⟩:=f;simp only at h0 h1 h2 h3;rcases c with⟨_,e⟩|⟨_,a,_⟩|⟨_,a,⟨g,e⟩|⟨_,_,e⟩|⟨_,_,_,e⟩|⟨_,_,d,_⟩⟩
 ·rw [e] at h;cases h
 ·rw [if_pos a,if_pos a];omega
 ·rw [e] at h;exact absurd h g
 ·rw [e] at h;cases h
 ·rw [e] at h;cases h
 ·rw [if_neg (by rw [a];decide),if_neg (by rw [a];decide)];have:=Eh.1 d;omega
section
variable {l:List UInt8} {go:Rq→Bk→Bk×Int} (r:Rq)
theorem zX(s:Bk):Ev l.length s (Cx l r s).1:=by
 unfold Cx;split
 ·exact Ev.refl _ s
 ·rename_i h;obtain⟨h1,h2,h3,a,b,_⟩:=aP (Decidable.of_not_not h);split
  ·rename_i ht;exact Gl s h1 (h3 (.inl ht)) (by omega)
  ·rename_i ht;split
   ·rename_i ht5;exact(Gl s (by have:=a ht;omega) (by omega) (by omega)).trans (Gl _ h1 (h3 (.inr ht5)) (by omega))
   ·exact(Gl s (by have:=a ht;omega) (by omega) (by omega)).trans (Gl _ h1 h2 (by omega))
theorem tH(s:Bk):Ev l.length s (C8 l r s).1:=by
 unfold C8;split
 ·rename_i h;obtain⟨h1,h2,_⟩:=Qd h;refine Gl s h1 h2 ?_;split <;>omega
 ·exact Ev.refl _ s
theorem yC(hgo:Ph l go)(s:Bk):Ev l.length s (G9 l go r s).1:=by
 unfold G9;split
 ·exact Ev.refl _ s
 ·rename_i h;obtain⟨_,_,h3,h4,h5,_⟩:=mF (Decidable.of_not_not h);have h6:=hgo (Ck l r) s h3;split
  ·exact h6
  ·exact h6.trans (Gl _ (by omega) (by omega) (by omega))
theorem Abs(hl:Cm l r.p r.q r.t r.v=0)(i:Nat)(hi:i<lsLen l r.p r.q r.t r.v)(s:Bk):Ev l.length s (Fk l r i s):=by
 unfold Fk;split
 ·rename_i ht;obtain⟨h1,h2,_,c⟩:=Kl hl;have a:tgs r.t=1:=by unfold tgs;rw [if_pos ht]
  rw [a,Nat.mul_add,Nat.mul_one] at c;have b:((lsLen l r.p r.q r.t r.v*r.v.toNat:Nat):Int)=lsLen l r.p r.q r.t r.v*r.v:=by
   rw [Int.natCast_mul,Int.toNat_of_nonneg (by omega)]
  rw [←b];generalize lsLen l r.p r.q r.t r.v*r.v.toNat=X at*;exact Gl s (by omega) (by omega) (by omega)
 ·exact Ev.refl _ s
theorem Aa3(hl:Cm l r.p r.q r.t r.v=0)(s:Bk):Ev l.length s (Jk l r s):=by
 unfold Jk;split
 ·rename_i hlt;obtain⟨h1,h2,h3,b⟩:=Kl hl;have a:1≤aheadT r.t:=by
   rcases Nat.eq_zero_or_pos (aheadT r.t) with h|h
   ·rw [h] at h3;omega
   ·exact h
  have c:1*r.v.toNat≤aheadT r.t*r.v.toNat:=Nat.mul_le_mul_right _ a;generalize aheadT r.t*r.v.toNat=X at*;generalize lsLen l r.p r.q r.t r.v*(r.v.toNat+tgs r.t)=Y at*;exact Gl s (by omega) (by omega) (by omega)
 ·exact Ev.refl _ s
theorem cO(hgo:Ph l go)(hl:Cm l r.p r.q r.t r.v=0):∀(k i:Nat) (s:Bk),i+k≤lsLen l r.p r.q r.t r.v→Ev l.length s (E0 l go r k i s).1
 |0,i,s,_=>Ev.refl _ s
 |k+1,i,s,hk=>by
  unfold E0;have ht:=Abs r hl i (by omega) s;split
  ·exact ht
  ·rename_i ha;have a:=hgo (Cq l r i) (Fk l r i s) (V6 hl (by omega) (Decidable.of_not_not ha));split
   ·exact ht.trans a
   ·exact(ht.trans a).trans (cO hgo hl k (i+1) _ (by omega))
theorem jG(hgo:Ph l go)(s:Bk):Ev l.length s (Gt l go r s).1:=by
 unfold Gt;split
 ·exact yC r hgo s
 ·exact Ev.refl _ s
theorem yF(hgo:Ph l go)(s:Bk):Ev l.length s (Dw l go r s).1:=by
 unfold Dw;split
 ·exact Ev.refl _ s
 ·rename_i h;have hl:=Decidable.of_not_not h;split
  ·exact jG r hgo s
  ·exact((jG r hgo s).trans (Aa3 r hl _)).trans (cO r hgo hl _ _ _ (by omega))
theorem xQ(hgo:Ph l go)(s:Bk):Ev l.length s (Dv l go r s).1:=by
 unfold Dv;split
 ·exact zX r s
 ·split
  ·exact tH r s
  ·exact yF r hgo s
end
theorem tQ(t:Int):1≤Fz t∧Fz t≤14:=by unfold Fz;(repeat' split) <;>omega
theorem vW(r:Rq)(s:Bk)(hr:Lh l.length r):Ev l.length s (D0 r s):=by
 obtain⟨h0,h1,h2,h3⟩:=hr;exact(show Ev l.length s s.burn from⟨[],by simp [Bk.burn],by simp⟩).trans (Gl _ h0 h3 (tQ _))
theorem jB(l:List UInt8):∀d,Ph l (Cj l d)
 |0,r,s,_=>Ev.refl _ s
 |d+1,r,s,hr=>by
  unfold Cj;split
  ·exact Ev.refl _ s
  ·have hs:=vW r s hr;split
   ·exact hs
   ·split
    ·exact hs
    ·exact(hs.trans (show Ev l.length (D0 r s) ((D0 r s).see (Hw l r)) from⟨[],by simp [Bk.see],by simp⟩)).trans (xQ r (jB l d) _)
theorem Wh(l:List P3):(Db l).length≤l.length:=by
 have h:∀(x:P3) (m:List P3),(Gi x m).length≤m.length+1:=by
  intro x m
  induction m with
  |nil=>simp [Gi]
  |cons y m ih=>
   unfold Gi;split
   ·simp only [Av];omega
   ·split <;>simp
 have h2:∀(l m:List P3),(l.foldl (fun m x=>Gi x m) m).length≤m.length+l.length:=by
  intro l
  induction l with
  |nil=>intro m;simp
  |cons x l ih=>
   intro m;rw [List.foldl_cons,Av];have:=ih (Gi x m);have:=h x m;omega
 have:=h2 l [];simpa [Db] using this
theorem rI(B g n c:Nat)(l:List P3)(w:World)(h:F5 w B (some ⟨g,0,none⟩) n c l)(hn:n≤2147483648):
  Calls Ad 46 #[.slice (some ⟨g,0,none⟩) n c,.func (.func 47) #[] #[]] w fun e w'=>∃k,e= .returned (.slice (some ⟨g,0,none⟩) k c)∧F5 w' B (some ⟨g,0,none⟩) k c (Db l)∧Fr (fun k=>k=g) w w':=by
 have q:=Hd h;clear h;go_enter func46,ntmps46;go_wp2_with fail;go_at_call 83;refine(nJ B g n c l _ q.o hn).mono ?_;rintro e u ⟨rfl,m,j,p,a,b⟩;have r:=Hd j;have s:=Hd p;have f:=Hd a;have d:=Hd b;clear j p a b;go_wp2_with fail;go_at_call 84;refine(cE B g n c m.toArray _ f.o hn).mono ?_;rintro e v ⟨k,t,rfl,a,b⟩;have i:=Yi l m r.o s.o;rw [i] at a;have f:=Hd a;have d:=Hd (d.o.trans b (fun _ _ h=>h));clear t a b i;go_wp2_with fail;go_ret;exact⟨k,rfl,f.o,d.o⟩
theorem Zy(h:w.heap.size=g)(o:Obj):(w.alloc o).heap[g]?=some o:=by subst h;exact heap_alloc_new w o
theorem Pz(h:D6 l=0):Lh l.length ⟨(C1 l).1,(C1 l).2.1,(C1 l).2.2.1,(C1 l).2.2.2⟩∧3≤l.length:=by
 obtain⟨x,a⟩:∃x,l.getD (l.length-1) 0=x:=⟨_,rfl⟩;obtain⟨y,b⟩:∃x,l.getD (l.length-2) 0=x:=⟨_,rfl⟩;have h3:¬l.length<3:=fun h3=>by rw [Na h3] at h;cases h
 have hw:Bt (x.toNat:Int)=true:=by
  cases hw:Bt (x.toNat:Int) with
  |true=>rfl
  |false=>rw [Lp a hw] at h;cases h
 have hu:Fh y=0:=by
  refine Decidable.byContradiction fun hu=>?_
  rw [Tt h3 a b hw hu] at h;exact hu h
 have h4:=Y2 h3 a b hw hu;rw [h] at h4;have c:=Ob a b h;rw [c];have d:=Bz.1 hw;refine⟨⟨?_,?_,?_,?_⟩,by omega⟩
 ·simp only;split at h4
  ·cases h4
  ·omega
 ·simp only;omega
 ·simp only;omega
 ·simp only;omega
def Dm(l:List UInt8):Rq:=⟨(C1 l).1,(C1 l).2.1,(C1 l).2.2.1,(C1 l).2.2.2⟩
def Ft(l:List UInt8)(fuel:Int):Bk:=(Bk.tell ⟨fuel,[],[]⟩ ((l.length:Int)-1) l.length 14).tell ((l.length:Int)-2) ((l.length:Int)-1) 8
def Th(l:List UInt8)(fuel:Int):Bk×Int:=Cj l (fuel.toNat+1) (Dm l) (Ft l fuel)
def Dg(l:List UInt8)(fuel:Int):Int:=if D6 l≠0 then D6 l else(Th l fuel).2
def F2(l:List UInt8)(fuel:Int):List P3:=if Dg l fuel≠0 then [] else Db (Th l fuel).1.o
theorem mY(A:Option Addr)(n c:Nat)(fuel:Int)(l:List UInt8)(w:World)(hl:Ca w A n l)(hc:n≤c)(hn:n≤4294967296)(hf:fuel≤100000000):
  Calls Ad 17 #[.slice A n c,Aa Ab fuel] w fun e w'=>∃A' k c',e= .returned (.tuple #[.slice A' k c',Aa Ab (Dg l fuel)])∧F5 w' w.heap.size A' k c' (F2 l fuel)∧Below w.heap.size w w':=by
 have a7:=hl.1;have HI:=Hd hl;clear hl;by_cases hr:D6 l=0
 ·obtain⟨L,h3⟩:=Pz hr;have T:=Hd L;have HR:=Hd hr;clear L hr;go_enter func17,ntmps17;go_wp2_with fail;go_at_call 43;refine(S2 A n c l _ HI.o (by omega)).mono ?_;rintro e w1 ⟨rfl,Z⟩;rw [HR.o];obtain⟨a,ha⟩:∃a,(C1 l).1=a:=⟨_,rfl⟩;obtain⟨b,H⟩:∃a,(C1 l).2.1=a:=⟨_,rfl⟩;obtain⟨d,hd⟩:∃a,(C1 l).2.2.1=a:=⟨_,rfl⟩;obtain⟨f,K⟩:∃a,(C1 l).2.2.2=a:=⟨_,rfl⟩;rw [ha,H,hd,K];replace HI:=Hd (HI.o.pure Z);have r:=Hd Z;have a8:Dm l=⟨a,b,d,f⟩:=by unfold Dm;rw [ha,H,hd,K]
  rw [ha,H,hd,K] at T;have aw:=Hd a8;clear Z ha H hd K a8;have h0:=run_makeMap (P:=Ad) 74;go_upto_region 7 with fail
  obtain⟨E,j⟩:∃E:Iy,E=⟨w1.heap.size,w1.heap.size+1+1+1+1,w1.heap.size+1+1+1,w1.heap.size+1+1,w1.heap.size+1,A,n,c,l⟩:=⟨_,rfl⟩;have L:E.Ok:=by
   subst j;refine⟨?_,?_,?_,?_,?_,?_,?_,?_,?_,?_,hc,hn⟩ <;>(try (simp only;omega))
   intro ad z;obtain⟨b',cb,e,bs⟩:=HI.o.some_ Cn (by omega) (by omega);simp only at z;rw [e] at z;injection z with z
   subst z;exact bs
  obtain⟨W,N⟩:∃W,W=(((w1.alloc (.cells (Adl a b d f) 70)).alloc (.cells #[.slice none 0 0] 42)).alloc (.map #[] 0)).alloc (.cells #[.slice A n c,Aa Ab fuel,.map (some (w1.heap.size+1+1)),.func (.func 44) #[] #[.pointer (some ⟨w1.heap.size+1,0,none⟩)]] 77):=⟨_,rfl⟩;have q:W.heap.size=w1.heap.size+1+1+1+1:=by subst N;simp
  have I:Below w1.heap.size w1 W:=by
   subst N;exact((((Af _ _).alloc (Ae _) _).alloc (by simp <;>omega) _).alloc (by simp <;>omega) _).alloc (by simp <;>omega) _
  have hX:Iz E none W w1.heap.size 70 (Adl a b d f):=by
   refine⟨?_,?_⟩
   ·subst N;exact(((Bh.new w1 _ _).alloc _).alloc _).alloc _
   ·subst j;refine⟨?_,?_,?_,?_⟩ <;>(try (simp only;omega))
    simp
  have hC:E6 E none ⟨fuel,[],[]⟩ W:=by
   refine⟨L,?_,?_,?_,?_,?_⟩
   ·subst j;exact HI.o.pure I
   ·subst j N;exact Bh.new_ (by simp) _ _
   ·subst j N;exact⟨#[],0,(Below.heap_alloc _ _ _ (by simp)).trans (Zy (by simp) _),rfl,by simp⟩
   ·subst j;refine⟨none,0,0,?_,Own.nil _ _,rfl⟩;subst N;exact((Bh.new_ (by simp) _ _).alloc _).alloc _
   ·subst j;rw [q];exact Ae _
  have a3:E.bl=w1.heap.size+1:=by rw [j]
  have a5:E.bw=w1.heap.size+1+1+1:=by rw [j]
  have a0:E.l=l:=by rw [j]
  have G:E.B0=w1.heap.size:=by rw [j]
  have a4:E.bm=w1.heap.size+1+1:=by rw [j]
  have bo:E.A=A:=by rw [j]
  have bq:E.n=n:=by rw [j]
  have bp:E.c=c:=by rw [j]
  rw [←N,←a5,←a4,←a3];rw [←bo,←bq,←bp];have R:E.B0≤W.heap.size:=by rw [q,G];omega
  have bf:=Hd (show w.heap.size≤E.B0 by rw [G];exact r.o.size);have M:=Hd (show w.heap.size≤E.B2 by have:=r.o.size;rw [j];simp only;omega);have bk:=Hd (r.o.trans (I.mono r.o.size));have s:=Hd hC;have bd:=Hd hC;have h:=Hd hX;have bb:=Hd G;have HE:=Hd j;have ax:=Hd (show Ft l fuel=((Bk.mk fuel [] []).tell ((l.length:Int)-1) l.length 14).tell ((l.length:Int)-2) ((l.length:Int)-1) 8 from rfl);have b5:=Hd I;have au:=Hd (Ed.refl E none W);have b7:=Hd R;clear N q I hX hC a3 a5 a4 G j R h0;have b3:IntKind.i64.wrap ((n:Int)-1)=(n:Int)-1:=Ag _ (by omega);have b4:IntKind.i64.wrap ((n:Int)-2)=(n:Int)-2:=Ag _ (by omega);generalize w1.heap.size=br at h⊢;obtain⟨c0,c1,c2,c3⟩:=s.o.cells;have x0:=Be h.o.1;have x1:=Bc h.o.1;have x2:=Bb h.o.1;have x3:=Bf h.o.1;obtain⟨W0,rfl⟩:∃W0:World,W0=W:=⟨_,rfl⟩;have r:=au;clear au;have bx:=Hd bb.o;go_wp2_with fail;go_at_call 44
  with_reducible refine(G6 ((n:Int)-1) n 14 s.o (by simp)).mono ?_
  rintro e w2 ⟨rfl,g2,ay,V⟩;replace r:=Hd (r.o.trans V);replace h:=Hd (h.o.to V);replace s:=Hd ay;clear c0 c1 c2 c3 x0 x1 x2 x3;clear ay V;obtain⟨c0,c1,c2,c3⟩:=s.o.cells;have x0:=Be h.o.1;have x1:=Bc h.o.1;have x2:=Bb h.o.1;have x3:=Bf h.o.1;go_wp2_with fail;go_at_call 44
  with_reducible refine(G6 ((n:Int)-2) ((n:Int)-1) 8 s.o (by unfold Bk.tell;split <;>simp)).mono ?_
  rintro e w3 ⟨rfl,g3,az,X⟩;replace r:=Hd (r.o.trans X);replace h:=Hd (h.o.to X);replace s:=Hd az;clear c0 c1 c2 c3 x0 x1 x2 x3;clear az X;obtain⟨c0,c1,c2,c3⟩:=s.o.cells;have x0:=Be h.o.1;have x1:=Bc h.o.1;have x2:=Bb h.o.1;have x3:=Bf h.o.1;have ae:((Bk.mk fuel [] []).tell ((n:Int)-1) n 14).tell ((n:Int)-2) ((n:Int)-1) 8=Ft l fuel:=by rw [ax.o,a7]
  have af:(Ft l fuel).left=fuel:=by unfold Ft;rw [Ef,Ef]
  have ag:(Ft l fuel).o=[((n:Int)-1,(n:Int),14),((n:Int)-2,(n:Int)-1,8)]:=by
   rw [←ae];unfold Bk.tell;rw [if_pos (by omega),if_pos (by omega)];rfl
  have q:(Ft l fuel).size≤900000000:=by
   unfold Bk.size;rw [ag,af];simp only [Av,List.length_nil];omega
  rw [ae] at s;obtain⟨y,hy⟩:∃y,Th l fuel=y:=⟨_,rfl⟩;have D:Cj E.l (fuel.toNat+1) ⟨a,b,d,f⟩ (Ft l fuel)=y:=by rw [a0,←aw.o];exact hy
  have B:=jB l (fuel.toNat+1) (Dm l) (Ft l fuel) (by rw [aw.o];exact T.o);rw [show(Cj l (fuel.toNat+1) (Dm l) (Ft l fuel))=y from hy] at B;have aa:=We E (fuel.toNat+1) g3 (Ft l fuel) a b d f w3 s.o (by rw [af];omega) q (by rw [a0];exact T.o);rw [D] at aa;have p:Dg l fuel=y.2:=by unfold Dg;rw [if_neg (by simp [HR.o]),hy]
  have i:F2 l fuel=if y.2≠0 then [] else Db y.1.o:=by unfold F2;rw [p,hy]
  have be:=Hd aa;have HY:=Hd (show(Cj l (fuel.toNat+1) (Dm l) (Ft l fuel)).1=y.1 by rw [←hy];rfl);have u:=Hd p;have v:=Hd i;have ar:=Hd B;have bi:=Hd ag;have bj:=Hd q;clear ae af ag q D B aa p i hy ax;go_wp2_with fail;go_at_call 45;refine be.o.mono ?_;rintro e w4 ⟨rfl,g4,U,Y⟩;obtain⟨s4,er⟩:=y;simp only at U v ar u HY⊢;replace r:=Hd (r.o.trans Y);replace h:=Hd (h.o.to Y);replace s:=Hd U;clear c0 c1 c2 c3 x0 x1 x2 x3;clear U Y;obtain⟨c0,c1,c2,c3⟩:=s.o.cells;have x0:=Be h.o.1;have x1:=Bc h.o.1;have x2:=Bb h.o.1;have x3:=Bf h.o.1;have C:Below w.heap.size w w4:=by
   exact bk.o.trans ((r.o.belowB bd.o).mono bf.o)
  have S:=Hd C;clear C;by_cases J:er=0
  ·subst J;have i:F2 l fuel=Db s4.o:=by rw [v.o];rfl
   have x:=Hd i;obtain⟨A',n',c',Q,m,hg⟩:=s.o.O;obtain⟨t,ht,_⟩:=ar.o;rw [bi.o] at ht;have F:s4.o.length=n':=m.1;have bt:1≤n':=by rw [←F,ht];simp
   have bu:n'≤2147483648:=by
    have h1:=((Ol l (fuel.toNat+1)) (Dm l) (Ft l fuel)).1.2;have h2:=Du s4;have h3:(Cj l (fuel.toNat+1) (Dm l) (Ft l fuel)).1=s4:=HY.o;rw [h3] at h1;have:=bj.o;omega
   have hA:∃g,A'=some ⟨g,0,none⟩∧E.B2≤g:=by
    cases A' with
    |none=>exact absurd (m.is.none_ Gv (by omega)).2 (by omega)
    |some ad=>
     obtain⟨h1,h2,_⟩:=m.addr ad rfl;exact⟨ad.block,by rw [h1],h2⟩
   obtain⟨g,rfl,a6⟩:=hA;have v0:_=some (Value.slice (some ⟨g,0,none⟩) n' c'):=Q.cell 0;have bh:=Hd m;have HG:=Hd a6;clear i ht F bt hg a6 m Q;go_wp2_with fail;go_at_call 46;refine(rI E.B2 g n' c' s4.o _ bh.o bu).mono ?_;rintro e w5 ⟨k,rfl,a2,a1⟩;have bg:=Hd a2;have C:Below w.heap.size w w5:=by
    refine S.o.trans (a1.belowB ?_ S.o.size);rintro k hk rfl;have:=M.o;have:=HG.o;omega
   have av:=Hd C;clear a2 a1 C;go_wp2_with fail;go_ret2;rw [u.o,x.o];exact⟨_,k,c',rfl,bg.o.rebase M.o,av.o⟩
  ·have bv:(er != 0)=true:=by simpa using J
   have i:F2 l fuel=[]:=by rw [v.o,if_pos J]
   have x:=Hd i;clear i J;go_wp2_with fail;go_ret2;rw [u.o,x.o];exact⟨none,0,0,rfl,Own.nil _ _,S.o⟩
 ·have bv:(D6 l != 0)=true:=by simpa using hr
  have p:Dg l fuel=D6 l:=by unfold Dg;rw [if_pos hr]
  have i:F2 l fuel=[]:=by unfold F2;rw [p,if_pos hr]
  have u:=Hd p;have v:=Hd i;clear p i hr;go_enter func17,ntmps17;go_wp2_with fail;go_at_call 43;refine(S2 A n c l _ HI.o (by omega)).mono ?_;rintro e w1 ⟨rfl,Z⟩;have r:=Hd (Z.alloc Z.size (.cells #[Aa Ab (C1 l).1,Aa Ab (C1 l).2.1,Aa Ab (C1 l).2.2.1,Aa Ab (C1 l).2.2.2] 70));clear Z;go_wp2_with fail;go_ret2;rw [u.o,v.o];exact⟨none,0,0,rfl,Own.nil _ _,r.o⟩
attribute [local go_sem] Oper.semAt_some
def mR:Except Int (List P3)→Int×Int
 | .error a=>(a,10)
 | .ok _=>(0,0)
def B5(l:List UInt8)(fuel:Int):Int×Int:=
 if Dg l fuel≠0 then(0,Dg l fuel)
 else if 1<(Dm l).q∧Cy l (Dm l).p (Dm l).q (Dm l).t (Dm l).v (Dm l).p ((Dm l).q/2)=true then((Dm l).p,10)
 else mR (Ou l (Dm l))
theorem Rt(h:Dg l fuel=0):D6 l=0:=by
 refine Decidable.byContradiction fun hr=>?_
 unfold Dg at h;rw [if_pos hr] at h;exact hr h
theorem Z6(h:D6 l=0):H8 (Dm l)∧Lh l.length (Dm l):=by
 refine⟨.inr ?_,(Pz h).1⟩;obtain⟨x,a⟩:∃x,l.getD (l.length-1) 0=x:=⟨_,rfl⟩;obtain⟨y,c⟩:∃x,l.getD (l.length-2) 0=x:=⟨_,rfl⟩;have h3:¬l.length<3:=fun h3=>by rw [Na h3] at h;cases h
 have hw:Bt (x.toNat:Int)=true:=by
  cases hw:Bt (x.toNat:Int) with
  |true=>rfl
  |false=>rw [Lp a hw] at h;cases h
 have hu:Fh y=0:=by
  refine Decidable.byContradiction fun hu=>?_
  rw [Tt h3 a c hw hu] at h;exact hu h
 have b:C5 ((y.toNat:Int)/4)=true:=by
  unfold Fh at hu;split at hu
  ·assumption
  ·cases hu
 have e:=Ob a c h;unfold Dm;rw [e];unfold Ix Jr;rw [if_pos b,if_pos b];have:=y.toNat_lt;refine⟨?_,by simp only;omega,by simp only;omega⟩;simp only;have d:y.toNat % 4<4:=Nat.mod_lt _ (by decide);generalize y.toNat % 4=z at d⊢;have:z=0∨z=1∨z=2∨z=3:=by omega
 rcases this with rfl|rfl|rfl|rfl <;>decide
theorem sH(bw:Nat)(A:Option Addr)(n c:Nat)(p q t v pos f:Int)(r:Bool)(l:List UInt8)(w:World)(h:Jp ⟨bw,A,n,c,l⟩ w)(hp:pos≤1099511627776)(hr:Cy l p q t v pos f=r):
  Calls Ad 60 #[Adm bw,.agg (Adl p q t v),Aa Ab pos,Aa Ab f] w (Adh (.bool r) w):=
 S7 ⟨bw,A,n,c,l⟩ p q t v pos f r w h hp hr
theorem mS(bw:Nat)(A:Option Addr)(n c:Nat)(l:List UInt8)(m:Nat)(hA:bQ ⟨bw,A,n,c,l⟩ m)(x p q t v:Int)(res:Except Int (List P3))(w:World)(h:Eb ⟨bw,A,n,c,l⟩ m [] x w)(hok:H8 ⟨p,q,t,v⟩)(hr:Ou l ⟨p,q,t,v⟩=res):
  Calls Ad 61 #[Adm bw,.agg (Adl p q t v)] w fun e w'=>sY ⟨bw,A,n,c,l⟩ m x w e w' res:=
 mT ⟨bw,A,n,c,l⟩ m hA x p q t v res w h hok hr
theorem H6(h:B5 l fuel=(a,e)):Ending.returned (.tuple #[Aa Ab a,Aa Ab e])=Ending.returned (.tuple #[Aa Ab (B5 l fuel).1,Aa Ab (B5 l fuel).2]):=by rw [h]
theorem Mo(A:Option Addr)(n c:Nat)(fuel:Int)(l:List UInt8)(w:World)(hl:Ca w A n l)(hc:n≤c)(hn:n≤4294967296)(hf:fuel≤100000000):
  Calls Ad 29 #[.slice A n c,Aa Ab fuel] w (Adh (.tuple #[Aa Ab (B5 l fuel).1,Aa Ab (B5 l fuel).2]) w):=by
 have av:=hl.1;have G:=Hd hl;have Y:=mY A n c fuel l w hl hc hn hf;clear hl;by_cases L:Dg l fuel=0
 ·have x:=Rt L;obtain⟨M,u⟩:=Z6 x;obtain⟨⟨p,q,t,v⟩,C⟩:∃r,Dm l=r:=⟨_,rfl⟩;rw [C] at M u;obtain⟨res,z⟩:∃res,Ou l ⟨p,q,t,v⟩=res:=⟨_,rfl⟩;obtain⟨st,N⟩:∃b,Cy l p q t v p (q/2)=b:=⟨_,rfl⟩;have y:B5 l fuel=if 1<q∧st=true then(p,10) else mR res:=by
   unfold B5;rw [if_neg (by rw [L];decide),C,z];simp only [N]
  have D:=Hd y;have ak:=Hd M;have Q:=Hd z;have al:=Hd N;have hq:1≤q∧q≤8:=⟨u.2.1,u.2.2.1⟩;have h3:3≤n:=by have:=(Pz x).2;omega
  have hp:0≤p∧p≤n:=by have h1:=u.1;have h2:=u.2.2.2;simp only at h1 h2;omega
  have hR:=fun W (h:Ca W A n l)=>S2 A n c l W h (by omega)
  have B:(C1 l).1=p∧(C1 l).2.1=q∧(C1 l).2.2.1=t∧(C1 l).2.2.2=v:=by
   unfold Dm at C;injection C with h1 h2 h3 h4
   exact⟨h1,h2,h3,h4⟩
  rw [x,B.1,B.2.1,B.2.2.1,B.2.2.2] at hR;rw [L] at Y;have R:=Hd hR;have HP:=Hd Y;clear L x M u C z N y hR Y B;go_enter func29,ntmps29;go_wp2_with fail;go_at_call 17;refine HP.o.mono ?_;rintro e w1 ⟨A',k,c',rfl,hO,d⟩;have f:=Hd d;replace G:=Hd (G.o.pure d);clear hO d HP;go_wp2_with fail;go_at_call 43;refine(R.o _ G.o).mono ?_;rintro e g ⟨rfl,d⟩;replace f:=Hd (Ba f.o d);replace G:=Hd (G.o.pure d);clear d R;have h0:=run_makeMap (P:=Ad) 90;go_upto_region 6 with fail
  obtain⟨W,O⟩:∃W,W=((g.alloc (.cells (Adl p q t v) 70)).alloc (.map #[] 0)).alloc (.cells #[.slice A n c,.map (some (g.heap.size+1)),Aa Ab 0] 92):=⟨_,rfl⟩;rw [←O];have E:Below g.heap.size g W:=by
   subst O;exact(((Af _ _).alloc (Ae _) _).alloc (by simp) _).alloc (by simp <;>omega) _
  have hX:Bh W g.heap.size 70 (Adl p q t v):=by
   subst O;exact((Bh.new g _ _).alloc _).alloc _
  have hA:∀ad,A=some ad→ad.block<g.heap.size:=by
   intro ad had;obtain⟨b',a2,e,aq⟩:=G.o.some_ Cn (by omega) (by omega);rw [e] at had;injection had with had
   subst had;exact aq
  have V:Eb ⟨g.heap.size+1+1,A,n,c,l⟩ (g.heap.size+1) [] 0 W:=by
   refine⟨hc,hn,G.o.pure E,?_,?_,fun ad had=>Nat.lt_of_lt_of_le (hA ad had) E.size⟩
   ·subst O;exact Bh.new_ (by simp) _ _
   ·subst O;exact⟨#[],0,(Below.heap_alloc _ _ _ (by simp)).trans (Zy (by simp) _),rfl,by simp⟩
  have X:bQ ⟨g.heap.size+1+1,A,n,c,l⟩ (g.heap.size+1):=by
   refine⟨fun ad had hs=>?_,by simp only;omega⟩;have:=hA ad had;unfold Jq at hs;simp only at hs;omega
  have S:=Hd f.o.size;replace f:=Hd (Ba f.o E);have T:=Hd hX;have j:=Hd V;have J:=Hd X;clear O E hX hA V X h0 G;have I:=Hd (show w.heap.size≤g.heap.size+1+1 by have:=S.o;omega);have H:=Hd (show w.heap.size≤g.heap.size+1 by have:=S.o;omega);generalize g.heap.size+1+1=bw at j J I⊢;generalize g.heap.size+1=m at j J H⊢;generalize g.heap.size=bR at T⊢;obtain ⟨x0,x1,x2,x3⟩:=T.o.c4;go_cut [29] from 11 to 53 (fun u29 wx=>∃wy,wy=wx∧u29= .bool (decide (1<q∧st=true))∧Below W.heap.size W wx)
  case first=>
   by_cases F:1<q
   ·have ap:decide (1<q)=true:=decide_eq_true F;have a0:IntKind.i64.wrap (q.tdiv 2)=q/2:=by rw [Int.tdiv_eq_ediv_of_nonneg (by omega)];exact Ag _ (by omega)
    have K:=Hd (show decide (1<q∧st=true)=st by cases st <;>simp [F]);have HQ:=Hd (Af W.heap.size W);clear f;go_wp2_with (go_at_call 60;(with_reducible refine(sH bw A n c p q t v p (q/2) st l _ j.o.m (by omega) al.o).mono ?_);rintro e w8 ⟨rfl,d⟩;replace HQ:=Hd d;clear x0 x1 x2 x3;clear d);go_meet;rw [K.o];exact⟨_,rfl,rfl,HQ.o⟩
   ·have ap:decide (1<q)=false:=decide_eq_false F;have K:=Hd (show decide (1<q∧st=true)=false from decide_eq_false fun h=>F h.1);go_wp2_with fail;go_meet;rw [K.o];exact⟨_,rfl,rfl,Af _ _⟩
  case rest=>
  obtain⟨w8,rfl,rfl,d⟩:=hcut;replace f:=Hd (Ba f.o d);replace T:=Hd (T.o.pure d);replace j:=Hd (j.o.pure d);clear x0 x1 x2 x3;clear d;obtain ⟨x0,x1,x2,x3⟩:=T.o.c4;by_cases s:1<q∧st=true
  ·have Z:decide (1<q∧st=true)=true:=decide_eq_true s;rw [Z];have x:=D.o;rw [if_pos s] at x;have HR:=Hd x;clear x s Z;go_wp2_with fail;go_ret2;exact⟨H6 HR.o,f.o⟩
  ·have Z:decide (1<q∧st=true)=false:=decide_eq_false s;rw [Z];have x:=D.o;rw [if_neg s] at x;have HR:=Hd x;have aj:=Hd (mS bw A n c l m J.o 0 p q t v res w8 j.o ak.o Q.o);clear x s Z;go_wp2_with fail;go_at_call 61;refine aj.o.mono ?_;cases res with
   |error a=>
    rintro e w9 ⟨rfl,⟨had,hL⟩,U⟩;have HL:=Hd hL;have d:Below w.heap.size w w9:=f.o.trans (U.belowB (fun i hi hs=>by have h1:=I.o;have h2:=H.o;unfold Jq at hs;simp only at hs;omega) f.o.size);replace f:=Hd d;clear d hL U x0 x1 x2 x3;have v0:_=some (Aa Ab a):=HL.o.k.cell 2;go_wp2_with fail;go_ret2;exact⟨H6 HR.o,f.o⟩
   |ok had=>
    rintro e w9 ⟨rfl,hL,U⟩;have d:Below w.heap.size w w9:=f.o.trans (U.belowB (fun i hi hs=>by have h1:=I.o;have h2:=H.o;unfold Jq at hs;simp only at hs;omega) f.o.size);replace f:=Hd d;clear d hL U x0 x1 x2 x3;go_wp2_with fail;go_ret2;exact⟨H6 HR.o,f.o⟩
 ·have a1:(Dg l fuel != 0)=true:=by simpa using L
  have y:B5 l fuel=(0,Dg l fuel):=by unfold B5;rw [if_pos L]
  have D:=Hd y;have HP:=Hd Y;clear y L Y;go_enter func29,ntmps29;go_wp2_with fail;go_at_call 17;refine HP.o.mono ?_;rintro e w1 ⟨A',k,c',rfl,hO,d⟩;have f:=Hd d;clear d hO;go_wp2_with fail;go_ret2;exact⟨H6 D.o,f.o⟩
theorem S9(s:ByteArray)(w:World):∃c w',(convert 9 22 (.string s)).run Ad w= .ok (.slice (some ⟨w.heap.size,0,none⟩) s.size c) w'∧s.size≤c∧Ca w' (some ⟨w.heap.size,0,none⟩) s.size s.data.toList∧Below w.heap.size w w':=by
 refine⟨_,_,run_bytes_of_string w 9 22 5 s underlying9 underlying22 underlying5,?_,?_,(Af _ _).drew.alloc (Ae _) _⟩
 ·exact grownCap_ge _ _ _ _
 ·refine⟨Array.length_toList,fun j u hu=>⟨_,_,rfl,?_⟩⟩;have b:j<s.data.size:=by
   have:=(List.getElem?_eq_some_iff.1 hu).1;rw [Cd Cn] at this;simpa using this
  have a:=heap_alloc_new w.drew (.cells (bytesRow s (grownCap w s.size 0 5)) 5 ((bytesRow s (grownCap w s.size 0 5)).size,(bytesRow s (grownCap w s.size 0 5)).size+1));change _[w.heap.size]?=_ at a;rw [cell_of_row _ _ _ _ _ _ a,Nat.zero_add,bytesRow_at s _ j b,←hu];have h1:=Ic Cn s.data.toList j 0 (by simpa using b) (by omega);rw [Nat.mul_one,Nat.add_zero] at h1;rw [h1];rfl
theorem qE{A:Option Addr}{L:List P3}(h:oD w A n L)(hk:k<n):∃b off,A=some ⟨b,off,none⟩∧∀x y z,L[k]?=some (x,y,z)→w.cell? ⟨b,off+k*3,none⟩=some (Aa Ab x)∧w.cell? ⟨b,off+k*3+1,none⟩=some (Aa Ab y)∧w.cell? ⟨b,off+k*3+2,none⟩=some (Aa Ab z):=by
 obtain⟨b,off,c,a,h1⟩:=h.at_ Gv (by omega) hk;refine⟨b,off,c,fun x y z hx=>?_⟩;rw [List.getElem?_eq_getElem a] at hx;injection hx with hx
 rw [hx] at h1;have h0:=h1 0 (by omega);have h2:=h1 1 (by omega);have h3:=h1 2 (by omega);exact⟨h0,h2,h3⟩
theorem Hr(s:ByteArray)(fuel a er:Int)(w:World)(hf:fuel≤100000000)(hs:s.size≤1000)(h1:B5 s.data.toList fuel=(a,er)):
  Calls Ad 39 #[.string s,Aa Ab fuel,Aa Ab a,Aa Ab er] w (Adh (.bool true) w):=by
 have i:=Hd h1;obtain⟨c,k,f,j,h,b⟩:=S9 s w;have g:=Hd h;have d:=Hd b;clear h1 h b;go_enter func39,ntmps39;go_wp2_with fail;go_at_call 29;refine(Mo _ s.size c fuel s.data.toList _ g.o j (by omega) hf).mono ?_;rw [i.o];rintro e l ⟨rfl,b⟩;replace d:=Hd (Ba d.o b);clear b f g;go_wp2;go_ret;exact⟨rfl,d.o⟩
theorem Acg:B5 [5,4,1] 9=(0,0):=by decide
theorem Ach:B5 [5,0,5,2] 9=(0,10):=by decide
theorem Aci:B5 [44,1,5,2] 9=(0,0):=by decide
theorem Acj:B5 [255,0,5,2] 9=(0,0):=by decide
theorem Ack:B5 [2,104,105,0,3,20,1] 9=(0,0):=by decide
theorem Acl:B5 [2,0,104,105,0,3,21,1] 9=(2,10):=by decide
theorem Acm:B5 [2,0,1,0,44,1,5,5,6,41,1] 9=(0,0):=by decide
theorem Acn:B5 [2,0,1,0,2,0,5,5,6,41,1] 9=(2,10):=by decide
theorem Aco:B5 [5,4,1] 0=(0,260):=by decide
theorem Abv:B5 [4,1] 9=(0,210):=by decide
theorem Dy(w:World):Calls Ad 13 #[] w (Adh (.bool true) w):=by
 have b:=Hd (Af w.heap.size w);go_enter func13,ntmps13;go_wp2_with fail;go_at_call 39;refine(Hr _ 9 0 0 _ (by decide) (by decide) Acg).mono ?_;rintro e c ⟨rfl,a⟩;replace b:=Hd (Ba b.o a);clear a;go_wp2_with fail;go_at_call 39;refine(Hr _ 9 0 10 _ (by decide) (by decide) Ach).mono ?_;rintro e c ⟨rfl,a⟩;replace b:=Hd (Ba b.o a);clear a;go_wp2_with fail;go_at_call 39;refine(Hr _ 9 0 0 _ (by decide) (by decide) Aci).mono ?_;rintro e c ⟨rfl,a⟩;replace b:=Hd (Ba b.o a);clear a;go_wp2_with fail;go_at_call 39;refine(Hr _ 9 0 0 _ (by decide) (by decide) Acj).mono ?_;rintro e c ⟨rfl,a⟩;replace b:=Hd (Ba b.o a);clear a;go_wp2_with fail;go_at_call 39;refine(Hr _ 9 0 0 _ (by decide) (by decide) Ack).mono ?_;rintro e c ⟨rfl,a⟩;replace b:=Hd (Ba b.o a);clear a;go_wp2_with fail;go_at_call 39;refine(Hr _ 9 2 10 _ (by decide) (by decide) Acl).mono ?_;rintro e c ⟨rfl,a⟩;replace b:=Hd (Ba b.o a);clear a;go_wp2_with fail;go_at_call 39;refine(Hr _ 9 0 0 _ (by decide) (by decide) Acm).mono ?_;rintro e c ⟨rfl,a⟩;replace b:=Hd (Ba b.o a);clear a;go_wp2_with fail;go_at_call 39;refine(Hr _ 9 2 10 _ (by decide) (by decide) Acn).mono ?_;rintro e c ⟨rfl,a⟩;replace b:=Hd (Ba b.o a);clear a;go_wp2_with fail;go_at_call 39;refine(Hr _ 0 0 260 _ (by decide) (by decide) Aco).mono ?_;rintro e c ⟨rfl,a⟩;replace b:=Hd (Ba b.o a);clear a;go_wp2_with fail;go_at_call 39;refine(Hr _ 9 0 210 _ (by decide) (by decide) Abv).mono ?_;rintro e c ⟨rfl,a⟩;replace b:=Hd (Ba b.o a);clear a;go_wp2;go_ret;exact⟨rfl,b.o⟩
theorem mO(x:Nv)(T:Tr)(fl:Int)(w:World)(hC:∀W,Below w.heap.size w W→Calls Ad 38 #[.agg (Adj x),Aa Ab 80,Aa Ab 300] W (kW W T))(hca:Gb (Cs T))(hc:T.cost≤65000)(he:(Kw Kf 0 T 0).1=0)(hmin:B5 (Ju (bits fl) (Cs T)) 2000=(0,0))(hlen:(Ju (bits fl) (Cs T)).length≤65100):
  Calls Ad 11 #[.agg (Adj x),Aa Ab fl] w (Adh (.bool true) w):=by
 have l:=Hd hC;have j:=Hd (And.intro hc he);have z:=Hd hca;have C:=Hd hmin;have B:=Hd hlen;clear hC hca hc he hmin hlen;have f:=Hd (show Below w.heap.size w (w.alloc (.cells (Adj x) 34)) from(Af _ _).alloc (Ae _) _);have a:=Hd (Bh.new w 34 (Adj x));go_enter func11,ntmps11;go_upto_region 1 with fail
 generalize w.alloc (.cells (Adj x) 34)=w1 at f a⊢;generalize E:w.heap.size=bt at a⊢;clear E;go_wp2_with fail;go_at_call 13;refine(Dy _).mono ?_;rintro e J ⟨rfl,hb⟩;have g:=Hd (Ba f.o hb);have m:=Hd (a.o.pure hb);have h:=Hd (l.o J g.o);clear hb f a;obtain ⟨L,M,N,O,P,Q⟩:=m.o.c6;go_wp2_with fail;go_at_call 38;refine h.o.mono ?_;rintro e H ⟨y,rfl,p,r⟩;have D:=Hd (show Ci H (fun b=>b<H.heap.size) y T from p.mono fun b hb=>hb.2);have s:=Hd (Ba g.o r);clear p r L M N O P Q m h g;have v:=Hd (Zl fl D.o (fun k hk=>hk) z.o j.o.1 j.o.2);go_wp2_with fail;go_at_call 10;refine v.o.mono ?_;rintro e K ⟨A,n,c,rfl,q,hb⟩;have d:=q.cap.1;have G:=q.is.1;have F:=B.o;have I:=Hd q.is;have t:=Hd (Ba s.o hb);have i:=Hd (Mo A n c 2000 (Ju (bits fl) (Cs T)) K q.is d (by omega) (by decide));rw [C.o] at i;clear hb q d G F;go_wp2_with fail;go_at_call 29;refine i.o.mono ?_;rintro e R ⟨rfl,hb⟩;have u:=Hd (Ba t.o hb);clear hb;go_wp2_with fail;go_ret;exact⟨rfl,u.o⟩
def Pu:Tr:= .mk 17 0 0 [] [[],[97],[98]] [
 .mk 10 0 0 [] [] [.mk 8 (-300) 0 [] [] [],.mk 6 0 0 [195,169] [] [],.mk 7 0 0 [] [] [],.mk 10 0 0 [] [] []],
 .mk 15 0 0 [] [] [.mk 3 (-129) 0 [] [] [],.mk 3 0 0 [] [] []],
 .mk 17 0 0 [] [[97]] [.mk 1 0 0 [] [] []]]
theorem Xn:(Kw Kf 0 Pu 0).1=0∧Pu.cost≤65000:=by decide +kernel
theorem yR{f:Nat}(hf:f=0∨f=7):B5 (Ju (bits (f:Int)) (Cs Pu)) 2000=(0,0)∧(Ju (bits (f:Int)) (Cs Pu)).length≤60:=by
 rcases hf with rfl|rfl <;>decide +kernel
theorem yQ:(Hv 300 Pu 79).1=Pu:=by rfl
def L6:List UInt8:=[97,0,1,0,4,0,4,0,2,0,1,0,7,0,5,3,37,1]
theorem nU(N:Nat)(h8:N % 8=0)(h:N≤16):B5 ((Ak 16 (0:UInt8)).take N++L6.take 1500) 2000=if(B5 (L6.take 1500) 2000).2=10 then((B5 (L6.take 1500) 2000).1+(((Ak 16 (0:UInt8)).take N).length:Int),10) else B5 (L6.take 1500) 2000:=by
 have:N=0∨N=8∨N=16:=by omega
 rcases this with rfl|rfl|rfl <;>decide +kernel
theorem aR:((B5 (L6.take 1500) 2000).2≠0→(B5 (L6.take 1500) 2000).2≠10→(B5 (L6.take 1500) 2000).1=0)∧0≤(B5 (L6.take 1500) 2000).1∧(B5 (L6.take 1500) 2000).1≤1500:=by decide +kernel
end
end Go.Proofs.YtejpbijeifjdeaaGreat
