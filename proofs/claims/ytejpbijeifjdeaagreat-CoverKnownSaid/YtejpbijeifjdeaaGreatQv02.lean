/- Parts of the proof. -/
import Derived.Test.YtejpbijeifjdeaaGreatQv01
import Derived.Lib.AppendZeros
import Derived.Deep.WholeRow
import Derived.Deep.DeepCutAuto
set_option maxHeartbeats 8000000
set_option maxRecDepth 100000
open Go.Value renaming int→Aa
open Go.IntKind renaming i64→Ab,u64→Ac
open Nat renaming le_refl→Ae,le_succ→Aj
open Go.RowKit.Below renaming refl→Af
open List renaming length_append→Ak,replicate→An,append_assoc→Ax
open Int renaming toNat_natCast→Ao
open UInt8 renaming ofNat→Aq
open Go.Proofs.Tryz
open Go.Proofs.Tryz renaming prog→Ad
namespace Go.Acc
open Go.RowKit
section
variable {P:Program} (w:World)
theorem O1(t tn ty e:TypeId)(i:TypeInfo)(z:Value)(k kn:IntKind)(ht:P.underlying t=some (.slice e))(htn:P.underlying tn=some (.int kn))(hi:P.info? e=some i)(hz:i.zero=some z)
  (g n cap:Nat) (cur:Array Value) (hg:w.heap[g]?=some (.cells cur e (0,0))) (m:Nat) (h0:0<m) (hs:0<i.size) (hzs:z.cells.size=i.size) (h63:(m:Int)≤9223372036854775807) (h48:m*i.bytes≤281474976710656)
  (hroom:n+m≤cap) (h1:∀u∈(Builtin.zeroCells z.cells m).toList,u.oneCell'=true) (hfit:n*i.size+m*i.size≤cur.size):
  (Builtin.append_ #[t,tn] ty #[.slice (some ⟨g,0,none⟩) n cap,.int k m]).run P w=
   .ok (.slice (some ⟨g,0,none⟩) (n+m) cap) (w.setRow g (cur.toList.take (n*i.size)++(Builtin.zeroCells z.cells m).toList++cur.toList.drop (n*i.size+(Builtin.zeroCells z.cells m).toList.length)).toArray):=by
 have f:(Builtin.zeroCells z.cells m).toList.length=m*i.size:=by rw [Array.length_toList,size_zeroCells,hzs]
 have c:=run_storeCells_at P g (n*i.size) e (Builtin.zeroCells z.cells m).toList 0 cur w hg (by rw [f];omega) h1;simp only [Nat.add_zero] at c;have h:m≠0:=by omega
 have j:IntKind.i64.wrap (m:Int)=m:=by rw [IntKind.wrap_i64];omega
 have a:¬(281474976710656<(m:Int)*(i.bytes:Int)):=by rw [←Int.natCast_mul];omega
 have b:¬((m:Int)<0):=by omega
 have d:¬(m*i.size=0):=Nat.mul_ne_zero h (by omega);simp [Builtin.append_,run_underlying ht,run_underlying htn,sizeOf,typeInfo,zeroValue,hi,hz,asInt,asIntOf,j,b,d,a,hroom,Addr.add_lit,c]
theorem O0(t tn ty e:TypeId)(i:TypeInfo)(z:Value)(k kn:IntKind)(ht:P.underlying t=some (.slice e))(htn:P.underlying tn=some (.int kn))(hi:P.info? e=some i)(hz:i.zero=some z)
  (b:Addr) (n cap:Nat) (olds:List Value) (hlo:olds.length=n*i.size) (holds:∀j v,olds[j]?=some v→w.cell? (b.add j)=some v)
  (m:Nat) (h0:0<m) (hs:0<i.size) (h63:((n+m:Nat):Int)≤9223372036854775807) (h48:m*i.bytes≤281474976710656) (hg:cap<n+m) (hfit:Builtin.nextslicecap (n+m) cap*i.bytes≤281474976710656):
  (Builtin.append_ #[t,tn] ty #[.slice (some b) n cap,.int k m]).run P w=
   .ok (.slice (some ⟨w.heap.size,0,none⟩) (n+m) (grownCap w (n+m) cap e))
    (w.drew.alloc (.cells (olds.toArray++(Builtin.zeroCells z.cells m)++Builtin.zeroCells z.cells (grownCap w (n+m) cap e-(n+m))) e)):=by
 have h:¬(n+m≤cap):=by omega
 have o:m≠0:=by omega
 have p:IntKind.i64.wrap (m:Int)=m:=by rw [IntKind.wrap_i64];omega
 have d:¬(9223372036854775807<((n:Int)+(m:Int))):=by omega
 have a:¬(281474976710656<Builtin.nextslicecap (n+m) cap*i.bytes):=by omega
 have c:¬(281474976710656<(m:Int)*(i.bytes:Int)):=by rw [←Int.natCast_mul];omega
 have f:¬((m:Int)<0):=by omega
 have l:¬(m*i.size=0):=Nat.mul_ne_zero o (by omega);have g:=run_firstCells_some (P:=P) w.drew i.size n b n cap olds hlo (by simpa using holds);simp [Builtin.append_,run_underlying ht,run_underlying htn,sizeOf,typeInfo,zeroValue,hi,hz,asInt,asIntOf,p,h,f,l,d,a,c,Question.forced,g,newRow,grownCap]
theorem Qj(base:Nat)(t tn ty e:TypeId)(i:TypeInfo)(z:Value)(k kn:IntKind)(size bytes:Nat)(ht:P.underlying t=some (.slice e))(htn:P.underlying tn=some (.int kn))(hi:P.info? e=some i)(hz:i.zero=some z)
  (hsize:i.size=size) (hby:i.bytes=bytes) (hzs:z.cells.size=size) (hsz:0<size) (h1:∀m,∀u∈(Builtin.zeroCells z.cells m).toList,u.oneCell'=true)
  (v:Value) (n:Nat) (xs:List Value) (hown:w.ownsRow base e size v n xs) (m:Nat) (h0:0<m)
  (h63:n+m≤maxLen) (hbytes:(n+m)*bytes≤140737488355328) (hbase:base≤w.heap.size):
  ∃v' w',(Builtin.append_ #[t,tn] ty #[v,.int k m]).run P w= .ok v' w'∧w'.ownsRow base e size v' (n+m) (xs++(Builtin.zeroCells z.cells m).toList)∧w.grownBy w' v.ownBlock∧
   (v'.ownBlock=v.ownBlock∨v'.ownBlock=some w.heap.size):=by
 subst hsize;subst hby
 have y:n+m≤9223372036854775807:=by simp only [maxLen] at h63;omega
 have o:m*i.bytes≤281474976710656:=by rw [Nat.add_mul] at hbytes;omega
 have s:(Builtin.zeroCells z.cells m).toList.length=m*i.size:=by rw [Array.length_toList,size_zeroCells,hzs]
 have b:(xs++(Builtin.zeroCells z.cells m).toList).length=(n+m)*i.size:=by rw [Ak,hown.1,s,Nat.add_mul]
 have f:∀(old:Nat),old<n+m→∀(row:Option Nat),
   (w.drew.alloc (.cells (xs.toArray++Builtin.zeroCells z.cells m++Builtin.zeroCells z.cells (grownCap w (n+m) old e-(n+m))) e)).ownsRow base e i.size
    (.slice (some ⟨w.heap.size,0,none⟩) (n+m) (grownCap w (n+m) old e)) (n+m) (xs++(Builtin.zeroCells z.cells m).toList)∧
   w.grownBy (w.drew.alloc (.cells (xs.toArray++Builtin.zeroCells z.cells m++Builtin.zeroCells z.cells (grownCap w (n+m) old e-(n+m))) e)) row:=by
  intro old G row;have C:=grownCap_ge w (n+m) old e;have l:grownCap w (n+m) old e≤maxLen:=grownCap_le_maxLen w (n+m) old e h63;refine⟨⟨b,.inr ⟨w.heap.size,_,_,rfl,hbase,heap_alloc_new w.drew _,C,l,?_,?_⟩⟩,⟨rfl,rfl,rfl,by simp,fun k hk _=>Below.heap_alloc w.drew _ k hk⟩⟩
  ·simp only [Array.size_append,List.size_toArray,size_zeroCells,hzs,hown.1,←Nat.add_mul]
   congr 1
   omega
  ·simp only [Array.toList_append,Ax];rw [←Ax,←b];exact List.take_left
 rcases hown.2 with⟨rfl,rfl⟩|⟨g,c,h,rfl,A,D,E,l,B,q⟩
 ·have F:xs=[]:=List.eq_nil_of_length_eq_zero (by simpa using hown.1);subst F;have x:=Lib.run_append_nil_zeros (P:=P) w t tn ty e i z k kn ht htn hi hz m h0 hsz (by omega) o;have d:=f 0 (by omega) (Value.ownBlock (.slice none 0 0));simp only [Nat.zero_add,List.nil_append,Array.empty_append] at d⊢;exact⟨_,_,x,d.1,d.2,Or.inr rfl⟩
 ·by_cases a:n+m≤c
  ·have r:n*i.size+m*i.size≤h.size:=by rw [B,←Nat.add_mul];exact Nat.mul_le_mul_right _ a
   have x:=O1 (P:=P) w t tn ty e i z k kn ht htn hi hz g n c h D m h0 hsz hzs (by omega) o a (h1 m) r;refine⟨_,_,x,⟨b,.inr ⟨g,c,_,rfl,A,setRow_heap w g h _ e _ D,a,l,?_,?_⟩⟩,⟨rfl,rfl,rfl,by simp,fun k _ hk=>setRow_other w g k _ (fun e=>hk (by simp [Value.ownBlock,e]))⟩,Or.inl rfl⟩
   ·simp only [List.size_toArray,Ak,List.length_take,List.length_drop,Array.length_toList];rw [Array.length_toList] at s;omega
   ·rw [q,←b];exact List.take_left
  ·have p:∀j u,xs[j]?=some u→w.cell? ((⟨g,0,none⟩:Addr).add j)=some u:=hown.cells (g:=g) rfl;have x:=O0 (P:=P) w t tn ty e i z k kn ht htn hi hz ⟨g,0,none⟩ n c xs hown.1 p m h0 hsz (by omega) o (by omega) (growslice_fits (by omega) hbytes);have d:=f c (by omega) (Value.ownBlock (.slice (some ⟨g,0,none⟩) n c));exact⟨_,_,x,d.1,d.2,Or.inr rfl⟩
end
section
variable {α:Type} {f:α→List Value} {P:Program} (w:World)
theorem Xn{zs:Array Value}{x:α}(hx:f x=zs.toList)(h0:0<zs.size)(m:Nat)(hf:∀x,(f x).length=zs.size):(Builtin.zeroCells zs m).toList=(An m x).flatMap f:=by
 apply List.ext_getElem?;intro j;by_cases a:j<m*zs.size
 ·have c:j/zs.size<m:=Nat.div_lt_of_lt_mul (by rw [Nat.mul_comm];exact a);have b:j % zs.size<zs.size:=Nat.mod_lt _ h0;have h1:=H6 hf (An m x) (j/zs.size) (j % zs.size) (by simpa using c) b;rw [show j/zs.size*zs.size+j % zs.size=j by rw [Nat.mul_comm];exact Nat.div_add_mod j zs.size,List.getElem_replicate,hx] at h1;rw [h1];simp [Builtin.zeroCells,a,b]
 ·rw [List.getElem?_eq_none (by simp [Builtin.zeroCells];omega),List.getElem?_eq_none (by rw [Cd hf];simp;omega)]
theorem qP{ops:Array Oper}{rest:List Oper}{o:Oper}{a:Act}{Q:Exit→Act→World→Prop}(hgd:Region.wanted o (yielded ops a.tmps)=true)(s x:Operand)(t tn:TypeId)
  (ho:o.op= .call { callee:= .builtin .append,args:=#[s,x],argTypes:=#[t,tn]})
  (e:TypeId) (z:Value) (sz bytes:Nat) (k kn:IntKind) (ht:P.underlying t=some (.slice e)) (htn:P.underlying tn=some (.int kn)) (hi:(P.info? e).map (fun i=>(i.zero,i.size,i.bytes))=some (some z,sz,bytes))
  (hzs:z.cells.size=sz) (hsz:0<sz) (hf:∀x,(f x).length=sz) (h1:∀x,∀u∈f x,u.oneCell'=true) (x0:α) (hx0:f x0=z.cells.toList)
  (B:Nat) (A:Option Addr) (n c:Nat) (l:List α) (hs:a.eval s= .slice A n c) (hown:Own f sz e w B A n c l)
  (m:Nat) (M:Int) (hx:a.eval x= .int k M) (hM:M=m) (hm:0<m)
  (hbytes:(n+m)*(bytes+1)≤140737488355328) (hbase:B≤w.heap.size)
  (h:∀A' c' w',Own f sz e w' B A' (n+m) c' (l++An m x0)→Fr (fun k=>∃ad,A=some ad∧k=ad.block) w w'→
   (A'.map (·.block)=A.map (·.block)∨A'.map (·.block)=some w.heap.size)→wpList P ops Q rest (a.put o.dst (.slice A' (n+m) c')) w'):
  wpList P ops Q (o::rest) a w:=by
 subst hM;obtain⟨i,p,C,b,j⟩:=info_parts hi;have v:(n+m)*bytes≤140737488355328:=Nat.le_trans (Nat.mul_le_mul_left _ (Aj _)) hbytes;have y:n+m≤maxLen:=by
  have:n+m≤(n+m)*(bytes+1):=Nat.le_mul_of_pos_right _ (Nat.succ_pos _);simp only [maxLen];omega
 have g:∀m,(Builtin.zeroCells z.cells m).toList=(An m x0).flatMap f:=fun m=>Xn hx0 (by rw [hzs];exact hsz) m (fun x=>by rw [hf,hzs])
 refine BigFrame.wpList_want hgd fun _ hK=>?_
 obtain⟨D,w',d,h2,h3,r⟩:=Qj (P:=P) w B t tn o.type e i z k kn sz bytes ht htn p C b j hzs hsz (fun m=>by rw [g];exact Mw h1 _) _ n (l.flatMap f) hown.2 m hm y v hbase;unfold Oper.wp execOp;simp only [ho,resolve,invoke,builtin,Sem.run_bind,Sem.run_pure,Result.andThen_ok,List.map_toArray,List.map_cons,List.map_nil,hs,hx,d];rw [g] at h2;obtain⟨A',c',rfl,q⟩:=Own.mk hf hsz (l:=l++An m x0) h2 List.flatMap_append.symm;refine hK _ _ (h A' c' w' q ((Fr.of_grown h3).mono fun i _ hi=>?_) ?_)
 ·cases A with
  |none=>simp [Value.ownBlock] at hi
  |some ad=>simp [Value.ownBlock] at hi;exact⟨ad,rfl,hi⟩
 ·cases A <;>cases A' <;>simp only [Value.ownBlock,Option.map] at r⊢ <;>exact r
end
end Go.Acc
namespace Go.Proofs.YtejpbijeifjdeaaGreat
variable {cur cur':Array Value}{off c g i a:Nat}{vs:List Value}{v:Value}{w w' W:World}{A:Option Addr}{m m':List UInt8}{ops:Array Oper}{rest:List Oper}{o:Oper}{Q:Exit→Act→World→Prop}
section
open Go.RowKit Go.Acc
def Ed(w u:Nat):Bool:=decide (w=8∨u<2^(8*w))
theorem Dl{y:Nat}(h:Br (y:Int)=true):y=1∨y=2∨y=4∨y=8:=by have:=B6.1 h;omega
def Bi(n u:Nat):List UInt8:=(List.range n).map fun i=>Aq (u/2^(8*i))
theorem B3(n u:Nat):(Bi n u).length=n:=by simp [Bi]
theorem eI(n u k:Nat)(hk:k<(Bi n u).length):(Bi n u)[k]=UInt8.ofNat (u/2^(8*k)):=by simp [Bi]
theorem aU(n u:Nat):Bi (n+1) u=Bi n u++ [Aq (u/2^(8*n))]:=by simp [Bi,List.range_succ]
theorem Jr(n u:Nat):Dp (Bi n u)=u % 2^(8*n):=by
 induction n with
 |zero=>simp [Bi,Dp,Nat.mod_one]
 |succ n ih=>
  rw [aU,Ve,ih,B3,UInt8.toNat_ofNat',show 8*(n+1)=8*n+8 by omega,Nat.pow_add,Nat.mod_mul,Nat.mul_comm (2^(8*n))]
theorem mZ(y u:Nat)(w:World)(hy:Br (y:Int)=true)(hu:(u:Int)<18446744073709551616):Calls Ad 27 #[Aa Ab y,Aa Ac u] w (Ab6 (.bool (Ed y u)) w):=by
 have a:(0:Int)≤u:=by omega
 rcases Dl hy with rfl|rfl|rfl|rfl
 ·by_cases h:u<256
  ·have H:=Hd (show Ed 1 u=true from decide_eq_true (.inr h));have e:((u:Int)/256==0)=true:=by rw [beq_iff_eq];omega
   clear h hy;go_enter func27,ntmps27;go_wp2;go_ret;exact⟨Ck H.o.symm,rfl⟩
  ·have H:=Hd (show Ed 1 u=false from decide_eq_false (by rintro(h'|h') <;>first|exact h h'|omega));have e:((u:Int)/256==0)=false:=by rw [beq_eq_false_iff_ne];omega
   clear h hy;go_enter func27,ntmps27;go_wp2;go_ret;exact⟨Ck H.o.symm,rfl⟩
 ·by_cases h:u<65536
  ·have H:=Hd (show Ed 2 u=true from decide_eq_true (.inr h));have e:((u:Int)/65536==0)=true:=by rw [beq_iff_eq];omega
   clear h hy;go_enter func27,ntmps27;go_wp2;go_ret;exact⟨Ck H.o.symm,rfl⟩
  ·have H:=Hd (show Ed 2 u=false from decide_eq_false (by rintro(h'|h') <;>first|exact h h'|omega));have e:((u:Int)/65536==0)=false:=by rw [beq_eq_false_iff_ne];omega
   clear h hy;go_enter func27,ntmps27;go_wp2;go_ret;exact⟨Ck H.o.symm,rfl⟩
 ·by_cases h:u<4294967296
  ·have H:=Hd (show Ed 4 u=true from decide_eq_true (.inr h));have e:((u:Int)/4294967296==0)=true:=by rw [beq_iff_eq];omega
   clear h hy;go_enter func27,ntmps27;go_wp2;go_ret;exact⟨Ck H.o.symm,rfl⟩
  ·have H:=Hd (show Ed 4 u=false from decide_eq_false (by rintro(h'|h') <;>first|exact h h'|omega));have e:((u:Int)/4294967296==0)=false:=by rw [beq_eq_false_iff_ne];omega
   clear h hy;go_enter func27,ntmps27;go_wp2;go_ret;exact⟨Ck H.o.symm,rfl⟩
 ·go_enter func27,ntmps27;go_wp2;go_ret;exact⟨rfl,rfl⟩
def Lq(cur:Array Value)(off:Nat)(vs:List Value)(k:Nat)(cur':Array Value):Prop:=
 cur'.size=cur.size∧∀j,cur'[j]?=if off≤j∧j<off+k then vs[j-off]? else cur[j]?
theorem Lq.zero(cur:Array Value)(off:Nat)(vs:List Value):Lq cur off vs 0 cur:=⟨rfl,fun j=>by rw [if_neg (by omega)]⟩
theorem Lq.step{k:Nat}(h:Lq cur off vs k cur')(hv:vs[k]?=some v)(hk:off+k<cur.size):Lq cur off vs (k+1) (cur'.setIfInBounds (off+k) v):=by
 refine⟨by simpa using h.1,fun j=>?_⟩;rw [Array.getElem?_setIfInBounds,h.2];by_cases e:off+k=j
 ·subst e;rw [if_pos rfl,if_pos (by rw [h.1];exact hk),if_pos (by omega),Nat.add_sub_cancel_left,hv]
 ·rw [if_neg e];by_cases h1:off≤j∧j<off+k
  ·rw [if_pos h1,if_pos (by omega)]
  ·rw [if_neg h1,if_neg (by omega)]
theorem Lq.take{n m:Nat}(h:Lq cur off vs n cur')(hv:vs.length=n)(hm:off+n≤m)(hs:m≤cur.size):cur'.toList.take m=(cur.toList.take m).take off++vs++(cur.toList.take m).drop (off+n):=by
 apply List.ext_getElem?;intro j;rw [List.getElem?_take];have a:=h.2 j;rw [←Array.getElem?_toList] at a;split
 ·rename_i hjm;rw [a];by_cases h1:j<off
  ·rw [if_neg (by omega),Ax,List.getElem?_append_left (by simp;omega),List.getElem?_take,if_pos h1,List.getElem?_take,if_pos hjm,Array.getElem?_toList]
  ·by_cases h2:j<off+n
   ·rw [if_pos (by omega),Ax,List.getElem?_append_right (by simp;omega),List.getElem?_append_left (by simp;omega)]
    congr 1
    simp;omega
   ·rw [if_neg (by omega),List.getElem?_append_right (by simp;omega),List.getElem?_drop,List.getElem?_take,←Array.getElem?_toList];have e:off+n+(j-((cur.toList.take m).take off++vs).length)=j:=by simp;omega
    rw [e,if_pos hjm]
 ·rename_i hjm;rw [List.getElem?_eq_none];simp;omega
theorem jG(u k:Nat):(u:Int)/2^(8*k) % 256=((Aq (u/2^(8*k))).toNat:Int):=by
 have e:(u:Int)/2^(8*k)=((u/2^(8*k):Nat):Int):=by simp
 rw [e,UInt8.toNat_ofNat'];omega
theorem dV(g off n c u:Nat)(cur:Array Value)(w:World)(hb:Bb w g 5 cur)(ho:off+n≤cur.size)(hn:n≤8)(hu:(u:Int)<18446744073709551616):
  Calls Ad 59 #[.slice (some ⟨g,off,none⟩) n c,Aa Ac u] w fun e w'=>e= .returned (.tuple #[])∧∃cur',Bb w' g 5 cur'∧Lq cur off ((Bi n u).flatMap bc) n cur'∧Fr (fun k=>k=g) w w':=by
 have d:=Hd hb;have s:(0:Int)≤u:=by omega
 clear hb;go_enter func59,ntmps59;go_wp2;go_loopw [7] (fun i wr=>∃(k:Nat) (cur':Array Value),k≤n∧i= Aa Ab k∧Bb wr g 5 cur'∧Lq cur off ((Bi n u).flatMap bc) k cur'∧Fr (fun k=>k=g) w wr) (fun i _=>n-(intOf i).toNat)
 case atStart=>exact⟨0,cur,by omega,rfl,d.o,Lq.zero _ _ _,Fr.refl _ _⟩
 case round=>
  obtain⟨k,cur',x,rfl,b,f,j⟩:=hrel;by_cases p:k<n
  ·have a:∃v,wr.cell? ⟨g,off+k,none⟩=some v:=⟨_,(b.cell (off+k)).trans (Array.getElem?_eq_getElem (by rw [f.1];omega))⟩;obtain⟨v,y⟩:=a;have t:=b.frozen (off+k);have q:=jG u k;have h:((Bi n u).flatMap bc)[k]?=some (.int .u8 ((Aq (u/2^(8*k))).toNat:Int)):=by
    have:=H6 C0 (Bi n u) k 0 (by rw [B3];exact p) (by omega);rw [Nat.mul_one,Nat.add_zero,eI] at this;exact this
   have r:=Hd q;have d:=Hd b;have m:=Hd (f.step h (by omega));have l:=Hd j;clear b f j q h;go_wp2;rw [r.o];exact⟨⟨k+1,_,by omega,by go_num,d.o.set_ _ _,m.o,Fr.setCell (S:=fun k=>k=g) l.o (fun _=>rfl) _⟩,by simp [intOf];omega⟩
  ·obtain rfl:k=n:=by omega
   have d:=Hd b;have m:=Hd f;have l:=Hd j;clear b f j;go_wp2;go_end0;exact⟨rfl,cur',d.o,m.o,l.o⟩
theorem Oq:(Ad.info? 5).map (fun i=>(i.zero,i.size,i.bytes))=some (some (.int .u8 0),1,1):=by kernel_rfl
def R5(w:World)(m:List UInt8)(e:Ending)(w':World):Prop:=
 ∃A n c,e= .returned (.slice A n c)∧Gp w' w.heap.size A n c m∧Below w.heap.size w w'
theorem Ra{w1:World}{n:Nat}{l:List UInt8}(h:Gp w' w.heap.size A n c l)(hl:l=m)(h1:Below w.heap.size w w1){S:Nat→Prop}(hg:Fr S w1 w')(hS:∀k,k<w.heap.size→¬S k):R5 w m (.returned (.slice A n c)) w':=by
 subst hl;exact⟨A,n,c,rfl,h,h1.trans (hg.belowB hS h1.size)⟩
theorem Pr(A:Option Addr)(n c:Nat)(l:List UInt8)(w:World)(h:B4 w A n l)(hl:n≤1099511627776):
  Calls Ad 12 #[.slice A n c] w (R5 w l):=by
 have e:=Hd h;clear h;go_enter func12,ntmps12;go_wp2_with (at_builtin;refine Fl _ rfl (.tmp 4) (.tmp 5) _ rfl 5 _ 1 1 underlying22 Oq rfl (by omega) C0 Q6 _ _ _ _ _ rfl (Own.nil w w.heap.size) _ _ _ _ rfl e.o (by omega) (Ae _) ?_;intro f i m a b d);go_ret;exact Ra (by simpa using a) rfl (Af _ _) b (by rintro k j ⟨g,h,_⟩;cases h)
theorem Oa(A:Option Addr)(n c:Nat)(l:List UInt8)(w:World)(h:B4 w A n l)(hl:n≤1099511627776):
  Calls Ad 52 #[.slice A n c] w (R5 w l):=by
 have f:=fun(w:World) (A:Option Addr) (n c:Nat)=>Lib.run_eql_slice_nil (P:=Ad) w 22 5 A n c 0 0 underlying22
 rcases A with _|a
 ·obtain⟨rfl,rfl⟩:=h.none_ C0 (by omega);clear h hl;go_enter func52,ntmps52;go_wp2_with fail;go_ret;exact⟨none,0,0,rfl,Own.nil _ _,Af _ _⟩
 ·have g:B4 (w.alloc (.cells #[] 5)) (some a) n l:=h.alloc _;have m:Gp (w.alloc (.cells #[] 5)) w.heap.size (some ⟨w.heap.size,0,none⟩) 0 0 []:=⟨rfl,World.ownsRow_lit w #[] 0 (Ae _) (Nat.zero_le _) rfl⟩;have i:=Hd g;clear h g;go_enter func52,ntmps52;go_wp2_with (at_builtin;refine Fl _ rfl (.tmp 5) (.tmp 6) _ rfl 5 _ 1 1 underlying22 Oq rfl (by omega) C0 Q6 _ _ _ _ _ rfl m _ _ _ _ rfl i.o (by omega) (by simp) ?_;intro p r t b d e);go_ret;exact Ra (by simpa using b) rfl ((Af _ _).alloc (Ae _) _) d (by rintro k s ⟨q,h,j⟩;injection h with h;subst h;simp at j;omega)
theorem Im{n:Nat}{l:List UInt8}(h:B4 w A n l):(convert 22 9 (.slice A n c)).run Ad w= .ok (.string ⟨l.toArray⟩) w:=by
 rcases Nat.eq_zero_or_pos n with h0|h0
 ·subst h0;obtain rfl:l=[]:=List.eq_nil_of_length_eq_zero h.1;rw [run_convert_bytes_string w 22 9 5 A 0 c underlying22 underlying5 underlying9];cases A with
  |none=>simp [Conv.bytesToString];rfl
  |some a=>
   have:=run_bytesToString (P:=Ad) w a 0 c [] (by simp [loadCells,loadCellsFrom]);rw [this];rfl
 ·obtain⟨b,d,rfl,_⟩:=h.some_ C0 (by omega) h0;have:=run_convert_bytes_arg (P:=Ad) w 22 5 underlying22 underlying5 b d n c (l.map fun x=>(x.toNat:Int)) (by simp [h.1]) (fun i hi=>by
   obtain⟨o,f,e,k,j⟩:=Ep h hi;injection e with e;injection e with e1 e2;subst e1 e2
   rw [j];simp [List.getD,List.getElem?_eq_getElem k]) 9 underlying9
  have g:∀m:List UInt8,(m.map fun x:UInt8=>(x.toNat:Int)).map (fun n=>Aq n.toNat)=m:=by
   intro m
   induction m with
   |nil=>rfl
   |cons x m ih=>rw [List.map_cons,List.map_cons,ih,Ao,UInt8.ofNat_toNat]
  have e:strOfNums (l.map fun x:UInt8=>(x.toNat:Int))=⟨l.toArray⟩:=by
   unfold strOfNums;rw [g]
  rw [this,e]
def U4(l m:List UInt8):Bool:=decide (l=m)
theorem rN(l:List UInt8):U4 l l=true:=decide_eq_true rfl
theorem rO(A B:Option Addr)(n n' c d:Nat)(l m:List UInt8)(w:World)(ha:B4 w A n l)(hb:B4 w B n' m):
  Calls Ad 31 #[.slice A n c,.slice B n' d] w (Ab6 (.bool (U4 l m)) w):=by
 have h1:=Im (c:=c) ha;have h2:=Im (c:=d) hb;have H:=Hd (show(l==m)=U4 l m by unfold U4;rw [Bool.eq_iff_iff];simp);clear ha hb;go_enter func31,ntmps31;go_wp2;go_ret;exact⟨Ck H.o,rfl⟩
theorem vU(w:World)(v:Int)(x:UInt8)(h:v=(x.toNat:Int)):B4 (w.alloc (.cells #[.int .u8 v] 5)) (some ⟨w.heap.size,0,none⟩) 1 [x]:=by
 subst h;refine⟨rfl,fun j u hj=>?_⟩;have e:j=0:=by
  have:=(List.getElem?_eq_some_iff.1 hj).1;simp [bc] at this;omega
 subst e;have hu:u= .int .u8 (x.toNat:Int):=by simpa [bc] using hj.symm
 subst hu;exact⟨_,_,rfl,(Bb.new w 5 _).cell 0⟩
theorem gA{B n:Nat}{l:List UInt8}(h:Gp w B (some ⟨g,0,none⟩) n c l):∃cur,Bb w g 5 cur∧n≤cur.size∧
  (∀(w':World) (cur':Array Value) (off k:Nat) (m:List UInt8),Bb w' g 5 cur'→Lq cur off (m.flatMap bc) k cur'→m.length=k→off+k≤n→Gp w' B (some ⟨g,0,none⟩) n c (l.take off++m++l.drop (off+k))):=by
 obtain⟨s,h1,h2⟩:=h;rcases h2 with⟨hv,_⟩|⟨r,i,cur,hv,o,p,e,d,b,a⟩
 ·cases hv
 ·injection hv with e1 _ e3
  injection e1 with e1
  injection e1 with e1
  subst e1 e3;simp only [Nat.mul_one] at b a h1;refine⟨cur,p,by omega,?_⟩;intro w' cur' off k m j f t q;refine⟨by simp;omega,?_,.inr ⟨g,c,cur',rfl,o,j,e,d,by rw [f.1,Nat.mul_one];exact b,?_⟩⟩
  ·rw [Cd C0];simp;omega
  ·rw [Nat.mul_one,f.take (by rw [Cd C0];omega) q (by omega),a,List.flatMap_append,List.flatMap_append,Mk C0,Oo C0,Nat.mul_one,Nat.mul_one]
def Og(x:Int)(b:Bool):Int:=if Br x=true then(if b=true then 0 else 10) else 2
def Oe(l:List UInt8)(x:Int)(u:Nat)(b:Bool):List UInt8:=if Br x=true∧b=true then l++Bi x.toNat u else []
def Zp(w:World)(m:List UInt8)(er:Int)(e:Ending)(w':World):Prop:=
 ∃A n c,e= .returned (.tuple #[.slice A n c,Aa Ab er])∧Gp w' w.heap.size A n c m∧Below w.heap.size w w'
theorem dM(A:Option Addr)(n c u F:Nat)(x:Int)(l:List UInt8)(caps:Array Value)(b:Bool)(w:World)(h:B4 w A n l)(hc:n≤c)(hn:n≤1099511627776)(hu:(u:Int)<18446744073709551616)
  (hF:∀(args:Array Value) (w:World),(callFunc F args).run Ad w= .ok (.enter F args) w)
  (hfit:Br x=true→Calls Ad F caps w (Ab6 (.bool b) w)):
  Calls Ad 25 #[.slice A n c,Aa Ab x,Aa Ac u,.func (.func F) #[] caps] w (Zp w (Oe l x u b) (Og x b)):=by
 have I:=Hd h;have X:=Hd hu;have i:=Hd hfit;clear h hu hfit;cases hx:Br x with
 |false=>
  have v:=Hd (show Og x b=2 by simp [Og,hx]);have z:=Hd (show Oe l x u b=[] by simp [Oe,hx]);have m:=Hd hx;clear hx;go_enter func25,ntmps25;go_wp2_with (go_at_call 58;refine(K9 x _).mono ?_;rw [m.o];rintro e J ⟨rfl,rfl⟩);go_ret2;rw [v.o,z.o];exact⟨none,0,0,rfl,Own.nil _ _,Af _ _⟩
 |true=>
  cases b with
  |false=>
   have v:=Hd (show Og x false=10 by simp [Og,hx]);have z:=Hd (show Oe l x u false=[] by simp [Oe]);have m:=Hd hx;clear hx;go_enter func25,ntmps25;go_wp2_with (go_at_call 58;refine(K9 x _).mono ?_;rw [m.o];rintro e J ⟨rfl,rfl⟩);refine(i.o m.o).mono ?_;rintro e J ⟨rfl,rfl⟩;clear hF;go_wp2;go_ret2;rw [v.o,z.o];exact⟨none,0,0,rfl,Own.nil _ _,Af _ _⟩
  |true=>
   have R:(1:Int)≤x∧(x:Int)≤8:=by have:=B6.1 hx;omega
   obtain⟨y,rfl⟩:∃y:Nat,x=y:=⟨x.toNat,by omega⟩;have ab:1≤y:=by omega
   have S:y≤8:=by omega
   have v:=Hd (show Og y true=0 by simp [Og,hx]);have z:=Hd (show Oe l y u true=l++Bi y u by simp [Oe,hx]);have m:=Hd hx;clear hx R;go_enter func25,ntmps25;go_wp2_with (go_at_call 58;refine(K9 y _).mono ?_;rw [m.o];rintro e J ⟨rfl,rfl⟩);refine(i.o m.o).mono ?_;rintro e J ⟨rfl,rfl⟩;clear hF;go_wp2_with (first
    |(go_at_call 52;refine(Oa A n c l _ I.o hn).mono ?_;rintro e w1 ⟨A1,H,c1,rfl,p,B⟩;obtain rfl:H=n:=(by rw [←p.1,I.o.1]);have r:=Hd p;have q:=Hd B;clear p B)
    |(at_builtin;refine qP _ rfl (.tmp 20) (.tmp 21) _ _ rfl 5 _ 1 1 _ _ underlying22 underlying3 Oq rfl (by omega) C0 Q6 (0:UInt8) rfl _ _ _ _ _ rfl r.o y _ rfl rfl (by omega) (by omega) q.o.size ?_;intro W T w2 d j G;have f:=Hd d;have K:=Hd j;clear d j G;have P:=f.o.cap;rcases W with _|s))
   ·exact absurd (f.o.is.none_ C0 (by omega)).2 (by omega)
   ·obtain⟨O,Q,Z⟩:=f.o.addr s rfl;obtain⟨g,rfl⟩:∃g,s=⟨g,0,none⟩:=⟨_,O⟩;obtain⟨N,V,aa,a⟩:=gA f.o;rw [Iv,Nat.zero_add];refine(dV g H y (T-H) u N w2 V (by omega) S X.o).mono ?_;rintro e w3 ⟨rfl,t,D,E,C⟩;have M:=Hd (a w3 t H y _ D E (B3 _ _) (Ae _));have L:=Hd C;clear V a D E C;go_wp2;go_ret2;rw [v.o,z.o];refine⟨some ⟨g,0,none⟩,H+y,T,rfl,?_,?_⟩
    ·have U:=M.o;rw [List.take_left' I.o.1,List.drop_eq_nil_of_le (by simp [I.o.1]),List.append_nil] at U;exact U
    ·refine Cf (Cf q.o K.o ?_) L.o ?_
     ·rintro k ⟨Y,h,rfl⟩;exact(r.o.addr Y h).2.1
     ·rintro k rfl;exact Q
theorem oY(a b u:Nat)(x:Int)(w:World)(ha:Bb w a 3 #[Aa Ab x])(hb:Bb w b 26 #[Aa Ac u])(hx:Br x=true)(hu:(u:Int)<18446744073709551616):
  Calls Ad 26 #[Aca a,Aca b] w (Ab6 (.bool (Ed x.toNat u)) w):=by
 obtain⟨y,rfl⟩:∃y:Nat,x=y:=⟨x.toNat,by have:=B6.1 hx;omega⟩;have f:w.cell? ⟨a,0,none⟩=some (Aa Ab y):=ha.cell 0;have g:w.cell? ⟨b,0,none⟩=some (Aa Ac u):=hb.cell 0;have d:=Hd hx;have c:=Hd hu;clear ha hb hx hu;go_enter func26,ntmps26;go_wp2_with (go_at_call 27;refine(mZ y u w d.o c.o).mono ?_;rintro e h ⟨rfl,rfl⟩);go_ret;exact⟨rfl,rfl⟩
theorem oZ{er:Int}{e:Ending}(hB:Below w.heap.size w W)(h:Zp W m er e w'):Zp w m er e w':=by
 obtain⟨A,n,c,he,hO,hB'⟩:=h;exact⟨A,n,c,he,hO.rebase hB.size,B5 hB hB'⟩
theorem uV(m:Int):IntKind.u64.wrap m=(((m % 18446744073709551616).toNat:Nat):Int):=by
 show m % 18446744073709551616=_;omega
theorem Cv(w:World)(o:Obj)(t:TypeId)(cs:Array Value):Bb ((w.alloc o).alloc (.cells cs t)) (w.heap.size+1) t cs:=by
 have h:=Bb.new (w.alloc o) t cs;have e:(w.alloc o).heap.size=w.heap.size+1:=by simp
 rw [e] at h;exact h
theorem tE(A:Option Addr)(n c u:Nat)(x:Int)(l:List UInt8)(w:World)(h:B4 w A n l)(hc:n≤c)(hn:n≤1099511627776)(hu:(u:Int)<18446744073709551616):
  Calls Ad 6 #[.slice A n c,Aa Ab x,Aa Ac u] w (Zp w (Oe l x u (Ed x.toNat u)) (Og x (Ed x.toNat u))):=by
 have p:=Hd h;have f:=Hd hu;have q:=f;clear h hu;go_enter func6,ntmps6;go_wp2_with fail
 skip
 have b:=(Bb.new w 3 #[Aa Ab x]).alloc (.cells #[Aa Ac (u:Int)] 26);have d:=Cv w (.cells #[Aa Ab x] 3) 26 #[Aa Ac (u:Int)];have a:=fun hx=>oY w.heap.size (w.heap.size+1) u x _ b d hx f.o
 have s:=(p.o.alloc (.cells #[Aa Ab x] 3)).alloc (.cells #[Aa Ac (u:Int)] 26);refine(dM A n c _ 26 x l _ _ _ s hc hn q.o Tryz.call26 a).mono ?_;intro e y t;obtain⟨j,v,r,rfl,i,g⟩:=t;have m:=Hd i;have k:=Hd g;clear i g;go_wp2;go_ret2;exact oZ (((Af _ _).alloc (Ae _) _).alloc (by simp) _) ⟨j,v,r,rfl,m.o,k.o⟩
theorem tV{i n:Int}(hn:0<n)(h:0≤i.tmod n):i.tmod n=i % n:=by
 have h1:=Int.tmod_lt_of_pos i hn;have h2:(i.tmod n) % n=i % n:=by rw [Int.tmod_def,Int.sub_emod,Int.mul_emod_right];simp
 rw [←h2,Int.emod_eq_of_lt h h1]
theorem dE{i n:Int}(hn:0<n)(h:i.tmod n<0):i.tmod n+n=i % n∧0≤i.tmod n+n:=by
 have h1: -n<i.tmod n:=by
  have:=Int.lt_tmod_of_pos i hn;omega
 have h2:(i.tmod n+n) % n=i % n:=by rw [Int.add_emod_right,Int.tmod_def,Int.sub_emod,Int.mul_emod_right];simp
 exact⟨by rw [←h2,Int.emod_eq_of_lt (by omega) (by omega)],by omega⟩
theorem Pl(i n:Int)(w:World)(h0:0<n)(hn:n≤9223372036854775807):
  Calls Ad 18 #[Aa Ab i,Aa Ab n] w (Ab6 (Aa Ab (i % n)) w):=by
 by_cases h:0≤i.tmod n
 ·have H:=Hd (tV h0 h);go_enter func18,ntmps18;go_wp2;go_ret;exact⟨En H.o,rfl⟩
 ·have a:i.tmod n<0:=by omega
  have H:=Hd (dE h0 a).1;have b:=(dE h0 a).2;clear h;go_enter func18,ntmps18;go_wp2;go_ret;exact⟨En H.o,rfl⟩
def wd(n:Int):Nat:=2^(n % 4).toNat
theorem fW(w:World)(vs:Array Value)(l:List UInt8)(n:Nat)(hn:l.length=n)(h:vs.toList=l.flatMap bc):B4 (w.alloc (.cells vs 5)) (some ⟨w.heap.size,0,none⟩) n l:=
 ⟨hn,fun j u hj=>⟨_,_,rfl,by rw [(Bb.new w 5 vs).cell,Nat.zero_add,←Array.getElem?_toList,h];exact hj⟩⟩
theorem bC(A:Option Addr)(n c:Nat)(a x:Int)(l:List UInt8)(w:World)(v er:Int)(hl:B4 w A n l)(hc:n≤c)(hn:n≤9223372036854775807)(h1:Jg l a x=v)(h2:Bz n a x=er):
  Calls Ad 168 #[.slice A n c,Aa Ab a,Aa Ab x] w (Ab5 (.tuple #[Aa Ab v,Aa Ab er]) w):=by
 subst h1 h2;exact kE A n c a x l w hl hc hn
def Lt(F:FuncId):Value:= .func (.func F) #[] #[]
def shZ:List Value:=[Aa Ab 0,.nilFunc,.nilFunc,Aa Ab 0]
def S3(t:Nat):List Value:=
 if Ib t=true then(if 0<Cr t then [Aa Ab 0,Lt 309,Lt 310,Aa Ab 0] else [Aa Ab 1,Lt 311,Lt 310,Aa Ab 0]) else shZ
def V1(t:Nat):List Value:=
 if t=10 then [Aa Ab 1,Lt 311,Lt 312,Aa Ab 1] else if t=9 then [Aa Ab 3,Lt 311,Lt 312,Aa Ab 1] else S3 t
def Ky(k t:Nat):List Value:=if t<k then S3 t else shZ
theorem xH(t:Nat):(S3 t).length=4:=by unfold S3;split <;>(try split) <;>rfl
theorem cU(k t:Nat):(Ky k t).length=4:=by unfold Ky;split;exact xH t;rfl
def O4(k:Nat):Array Value:=((List.range 37).flatMap (Ky k)).toArray
def K2:Array Value:=((List.range 37).flatMap V1).toArray
def Ub:Array Value:=((List.range 37).flatMap fun _=>shZ).toArray
theorem Aae:(Ad.info? 286).map (fun i=>(i.zero,i.size))=some (some (Value.agg Ub),148):=by kernel_rfl
theorem Jz(k:Nat):(O4 k).size=148:=by
 unfold O4;rw [List.size_toArray,Cd (cU k),List.length_range]
theorem Mm{k t:Nat}(ht:t<37)(hi:i<4):(O4 k)[t*4+i]?=(Ky k t)[i]?:=by
 unfold O4;rw [List.getElem?_toArray,H6 (cU k) (List.range 37) t i (by simpa using ht) hi,List.getElem_range]
theorem tJ{k:Nat}(h:Ib k=false):O4 (k+1)=O4 k:=by
 unfold O4
 congr 1
 have e:Ky (k+1)=Ky k:=by
  funext t
  unfold Ky;by_cases h1:t<k
  ·rw [if_pos h1,if_pos (by omega)]
  ·by_cases h2:t=k
   ·subst h2;rw [if_pos (by omega),if_neg h1];unfold S3;rw [h];rfl
   ·rw [if_neg (by omega),if_neg h1]
 rw [e]
theorem gN{k:Nat}(hk:k<37){a b c d:Value}(h:S3 k=[a,b,c,d]):((((O4 k).setIfInBounds (k*4) a).setIfInBounds (k*4+1) b).setIfInBounds (k*4+2) c).setIfInBounds (k*4+3) d=O4 (k+1):=by
 apply Array.ext_getElem?;intro j;have m:=Jz k;by_cases n:j<148
 ·have l:j/4<37:=by omega
  have e:j/4*4+j % 4=j:=by omega
  have h1:=Mm (k:=k) l (show j % 4<4 by omega);have h2:=Mm (k:=k+1) l (show j % 4<4 by omega);rw [e] at h1 h2;rw [h2];simp only [Array.getElem?_setIfInBounds,Array.size_setIfInBounds,m];by_cases g:j/4=k
  ·have i:Ky (k+1) (j/4)=[a,b,c,d]:=by rw [g];unfold Ky;rw [if_pos (by omega),h]
   rw [i];have f:j % 4=0∨j % 4=1∨j % 4=2∨j % 4=3:=by omega
   rcases f with f|f|f|f <;>rw [f]
   ·rw [if_neg (by omega),if_neg (by omega),if_neg (by omega),if_pos (by omega),if_pos (by omega)];rfl
   ·rw [if_neg (by omega),if_neg (by omega),if_pos (by omega),if_pos (by omega)];rfl
   ·rw [if_neg (by omega),if_pos (by omega),if_pos (by omega)];rfl
   ·rw [if_pos (by omega),if_pos (by omega)];rfl
  ·rw [if_neg (by omega),if_neg (by omega),if_neg (by omega),if_neg (by omega),h1]
   congr 1
   unfold Ky;by_cases h1:j/4<k
   ·rw [if_pos h1,if_pos (by omega)]
   ·rw [if_neg h1,if_neg (by omega)]
 ·rw [Array.getElem?_eq_none (by simp [m];omega),Array.getElem?_eq_none (by rw [Jz];omega)]
theorem qO{a:Act}(hgd:o.guard=none)(p:Operand)(ty:TypeId)(ho:o.op= .load ty p)(g:Nat)(hp:a.eval p= Aca g)(v:Value)
  (h:(loadVar ty ⟨g,0,none⟩).run Ad w= .ok v w) (hk:wpList Ad ops Q rest (a.put o.dst v) w):wpList Ad ops Q (o::rest) a w:=by
 refine wpList_plain hgd fun K hK=>?_
 unfold Oper.wp;simp only [execOp,ho,hp,Instr.loadAt,Instr.sureAddr,Sem.run_bind,Sem.run_pure,Result.andThen_ok,h];exact hK _ _ hk
theorem lF{a:Act}(hgd:o.guard=none)(p x:Operand)(ty:TypeId)(ho:o.op= .store ty p x)(g:Nat)(hp:a.eval p= Aca g)(v:Value)(hx:a.eval x=v)
  (h:(storeVar ty ⟨g,0,none⟩ v).run Ad w= .ok () w') (hk:wpList Ad ops Q rest (a.put o.dst undef) w'):wpList Ad ops Q (o::rest) a w:=by
 refine wpList_plain hgd fun K hK=>?_
 unfold Oper.wp;simp only [execOp,ho,hp,hx,Instr.storeAt,Instr.sureAddr,Sem.run_bind,Sem.run_pure,Result.andThen_ok,h];exact hK _ _ hk
theorem Hs{t:TypeId}{cs:Array Value}(h:Bb W g t cs)(hi:i<cs.size)(h1:v.oneCell'=true):(store ⟨g,i,none⟩ v).run Ad W= .ok () (W.setCell ⟨g,i,none⟩ v):=by
 rw [run_store Ad W _ v _ h1,h.cell i,Array.getElem?_eq_getElem hi];simp [h.frozen i]
theorem Ll(w:World):Calls Ad 252 #[] w (Ab5 (.agg K2) w):=by
 have hz:=(zero_of_info Aae).1;have S:Ub.size=148:=by kernel_rfl
 go_enter func252,ntmps252;go_wp2_with fail;go_loopw [2,3,4,5,6] (fun _ _ _ _ i wr=>∃k:Nat,k≤37∧i= Aa Ab k∧Bb wr (w.heap.size+1) 286 (O4 k)∧Bb wr w.heap.size 286 Ub∧Below w.heap.size w wr) (fun _ _ _ _ i _=>37-(intOf i).toNat)
 case atStart=>exact⟨0,by omega,rfl,by rw [show O4 0=Ub by kernel_rfl];exact Bb.new_ (by simp) _ _,(Bb.new w _ _).alloc _,((Af _ _).alloc (Ae _) _).alloc (by simp) _⟩
 case round=>
  obtain⟨k,hk,rfl,Y,Z,X⟩:=hrel;have HK:=Hd Y;have n:=Hd Z;have g:=Hd X;clear Y Z X hz S;by_cases a:k<37
  ·have ad:(0:Int)≤k:=by omega
   have aa:(k:Int)<37:=by omega
   go_wp2_with fail;go_at_call 272;refine(J6 k _).mono ?_;rintro e B ⟨rfl,A⟩;replace HK:=Hd (HK.o.pure A);replace n:=Hd (n.o.pure A);replace g:=Hd (A6 g.o A);clear A;cases hv:Ib k with
   |false=>
    have z:=Hd hv;clear hv;go_wp2;go_roundw
    case rel=>exact⟨k+1,by omega,by go_num,by rw [tJ z.o];exact HK.o,n.o,g.o⟩
    case measure=>simp [intOf];omega
   |true=>
    have c0:B.cell? ⟨w.heap.size+1,k*4,none⟩=some (Aa Ab 0):=(HK.o.cell (k*4)).trans (by rw [show k*4=k*4+0 by omega,Mm a (by omega)];unfold Ky;rw [if_neg (by omega)];rfl);have c1:B.cell? ⟨w.heap.size+1,k*4+1,none⟩=some .nilFunc:=(HK.o.cell (k*4+1)).trans (by rw [Mm a (by omega)];unfold Ky;rw [if_neg (by omega)];rfl);have c2:B.cell? ⟨w.heap.size+1,k*4+2,none⟩=some .nilFunc:=(HK.o.cell (k*4+2)).trans (by rw [Mm a (by omega)];unfold Ky;rw [if_neg (by omega)];rfl);have c3:B.cell? ⟨w.heap.size+1,k*4+3,none⟩=some (Aa Ab 0):=(HK.o.cell (k*4+3)).trans (by rw [Mm a (by omega)];unfold Ky;rw [if_neg (by omega)];rfl);have f0:=HK.o.frozen (k*4);have f1:=HK.o.frozen (k*4+1);have f2:=HK.o.frozen (k*4+2);have f3:=HK.o.frozen (k*4+3);by_cases hm:0<Cr k
    ·have hvr:S3 k=[Aa Ab 0,.func (.func 309) #[] #[],.func (.func 310) #[] #[],Aa Ab 0]:=by unfold S3;rw [if_pos hv,if_pos hm];rfl
     have z:=Hd hvr;have P:=Hs (i:=k*4+1) (v:= .func (.func 309) #[] #[]) (HK.o.set_ (k*4) (Aa Ab 0)) (by simp [Jz];omega) rfl;have Q:=Hs (i:=k*4+2) (v:= .func (.func 310) #[] #[]) ((HK.o.set_ (k*4) (Aa Ab 0)).set_ (k*4+1) (.func (.func 309) #[] #[])) (by simp [Jz];omega) rfl;clear hv hvr;go_wp2;go_roundw
     case rel=>exact⟨k+1,by omega,by go_num,by rw [←gN a z.o];exact(((HK.o.set_ _ _).set_ _ _).set_ _ _).set_ _ _,(((n.o.far (by simp) _).far (by simp) _).far (by simp) _).far (by simp) _,(((g.o.setCell (Aj _) _).setCell (Aj _) _).setCell (Aj _) _).setCell (Aj _) _⟩
     case measure=>simp [intOf];omega
    ·have hvr:S3 k=[Aa Ab 1,.func (.func 311) #[] #[],.func (.func 310) #[] #[],Aa Ab 0]:=by unfold S3;rw [if_pos hv,if_neg hm];rfl
     have z:=Hd hvr;have P:=Hs (i:=k*4+1) (v:= .func (.func 311) #[] #[]) (HK.o.set_ (k*4) (Aa Ab 1)) (by simp [Jz];omega) rfl;have Q:=Hs (i:=k*4+2) (v:= .func (.func 310) #[] #[]) ((HK.o.set_ (k*4) (Aa Ab 1)).set_ (k*4+1) (.func (.func 311) #[] #[])) (by simp [Jz];omega) rfl;clear hv hvr;go_wp2;go_roundw
     case rel=>exact⟨k+1,by omega,by go_num,by rw [←gN a z.o];exact(((HK.o.set_ _ _).set_ _ _).set_ _ _).set_ _ _,(((n.o.far (by simp) _).far (by simp) _).far (by simp) _).far (by simp) _,(((g.o.setCell (Aj _) _).setCell (Aj _) _).setCell (Aj _) _).setCell (Aj _) _⟩
     case measure=>simp [intOf];omega
  ·obtain rfl:k=37:=by omega
   have b:(O4 37).size=148:=Jz 37;have E:wr.cell? ⟨w.heap.size+1,40,none⟩=some (Aa Ab 0):=(HK.o.cell 40).trans (by kernel_rfl);have F:wr.cell? ⟨w.heap.size+1,43,none⟩=some (Aa Ab 0):=(HK.o.cell 43).trans (by kernel_rfl);have C:wr.cell? ⟨w.heap.size+1,36,none⟩=some (Aa Ab 0):=(HK.o.cell 36).trans (by kernel_rfl);have D:wr.cell? ⟨w.heap.size+1,39,none⟩=some (Aa Ab 0):=(HK.o.cell 39).trans (by kernel_rfl);have K:=HK.o.frozen 40;have L:=HK.o.frozen 41;have M:=HK.o.frozen 42;have N:=HK.o.frozen 43;have G:=HK.o.frozen 36;have H:=HK.o.frozen 37;have I:=HK.o.frozen 38;have J:=HK.o.frozen 39;have q:=HK;have h:=Hd (q.o.set_ 40 (Aa Ab 1));have V:=Hs (i:=41) (v:=(.func (.func 311) #[] #[])) h.o (by simp [b]) rfl;have j:=Hd (h.o.set_ 41 (.func (.func 311) #[] #[]));have W:=Hs (i:=42) (v:=(.func (.func 312) #[] #[])) j.o (by simp [b]) rfl;have r:=Hd (j.o.set_ 42 (.func (.func 312) #[] #[]));have s:=Hd (r.o.set_ 43 (Aa Ab 1));have l:=Hd (s.o.set_ 36 (Aa Ab 3));have T:=Hs (i:=37) (v:=(.func (.func 311) #[] #[])) l.o (by simp [b]) rfl;have m:=Hd (l.o.set_ 37 (.func (.func 311) #[] #[]));have U:=Hs (i:=38) (v:=(.func (.func 312) #[] #[])) m.o (by simp [b]) rfl;have t:=Hd (m.o.set_ 38 (.func (.func 312) #[] #[]));have u:=Hd (t.o.set_ 39 (Aa Ab 1));have d:Bb ((((((((wr.setCell ⟨w.heap.size+1,40,none⟩ (Aa Ab 1)).setCell ⟨w.heap.size+1,41,none⟩ (.func (.func 311) #[] #[])).setCell ⟨w.heap.size+1,42,none⟩ (.func (.func 312) #[] #[])).setCell ⟨w.heap.size+1,43,none⟩ (Aa Ab 1)).setCell ⟨w.heap.size+1,36,none⟩ (Aa Ab 3)).setCell ⟨w.heap.size+1,37,none⟩ (.func (.func 311) #[] #[])).setCell ⟨w.heap.size+1,38,none⟩ (.func (.func 312) #[] #[])).setCell ⟨w.heap.size+1,39,none⟩ (Aa Ab 1)) (w.heap.size+1) 286 K2:=by
    have:=u.o;rw [show((((((((O4 37).setIfInBounds 40 (Aa Ab 1)).setIfInBounds 41 (.func (.func 311) #[] #[])).setIfInBounds 42 (.func (.func 312) #[] #[])).setIfInBounds 43 (Aa Ab 1)).setIfInBounds 36 (Aa Ab 3)).setIfInBounds 37 (.func (.func 311) #[] #[])).setIfInBounds 38 (.func (.func 312) #[] #[])).setIfInBounds 39 (Aa Ab 1)=K2 by kernel_rfl] at this;exact this
   have c:=Hd d;clear q h j r s l m t u d b;have p:Hid (Bb ((((((((wr.setCell ⟨w.heap.size+1,40,none⟩ (Aa Ab 1)).setCell ⟨w.heap.size+1,41,none⟩ (.func (.func 311) #[] #[])).setCell ⟨w.heap.size+1,42,none⟩ (.func (.func 312) #[] #[])).setCell ⟨w.heap.size+1,43,none⟩ (Aa Ab 1)).setCell ⟨w.heap.size+1,36,none⟩ (Aa Ab 3)).setCell ⟨w.heap.size+1,37,none⟩ (.func (.func 311) #[] #[])).setCell ⟨w.heap.size+1,38,none⟩ (.func (.func 312) #[] #[])).setCell ⟨w.heap.size+1,39,none⟩ (Aa Ab 1)) w.heap.size 286 Ub):=Hd ((((((((n.o.far (by simp) _).far (by simp) _).far (by simp) _).far (by simp) _).far (by simp) _).far (by simp) _).far (by simp) _).far (by simp) _);have x:Hid (Below w.heap.size w ((((((((wr.setCell ⟨w.heap.size+1,40,none⟩ (Aa Ab 1)).setCell ⟨w.heap.size+1,41,none⟩ (.func (.func 311) #[] #[])).setCell ⟨w.heap.size+1,42,none⟩ (.func (.func 312) #[] #[])).setCell ⟨w.heap.size+1,43,none⟩ (Aa Ab 1)).setCell ⟨w.heap.size+1,36,none⟩ (Aa Ab 3)).setCell ⟨w.heap.size+1,37,none⟩ (.func (.func 311) #[] #[])).setCell ⟨w.heap.size+1,38,none⟩ (.func (.func 312) #[] #[])).setCell ⟨w.heap.size+1,39,none⟩ (Aa Ab 1))):=Hd ((((((((g.o.setCell (Aj _) _).setCell (Aj _) _).setCell (Aj _) _).setCell (Aj _) _).setCell (Aj _) _).setCell (Aj _) _).setCell (Aj _) _).setCell (Aj _) _);clear n g HK;go_upto_region 13 with fail
   generalize ((((((((wr.setCell ⟨w.heap.size+1,40,none⟩ (Aa Ab 1)).setCell ⟨w.heap.size+1,41,none⟩ (.func (.func 311) #[] #[])).setCell ⟨w.heap.size+1,42,none⟩ (.func (.func 312) #[] #[])).setCell ⟨w.heap.size+1,43,none⟩ (Aa Ab 1)).setCell ⟨w.heap.size+1,36,none⟩ (Aa Ab 3)).setCell ⟨w.heap.size+1,37,none⟩ (.func (.func 311) #[] #[])).setCell ⟨w.heap.size+1,38,none⟩ (.func (.func 312) #[] #[])).setCell ⟨w.heap.size+1,39,none⟩ (Aa Ab 1))=wf at c p x⊢;clear E F C D K L M N G H I J V W T U;have O:(loadVar 286 ⟨w.heap.size+1,0,none⟩).run Ad wf= .ok (.agg K2) wf:=run_loadVar_row wf _ _ _ K2 (0,0) _ c.o underlying286 rfl (by kernel_rfl);have R:(storeVar 286 ⟨w.heap.size,0,none⟩ (.agg K2)).run Ad wf= .ok () (wf.setRow w.heap.size K2):=run_storeVar_row wf _ _ _ Ub K2 p.o (by kernel_rfl) (by kernel_rfl) (by kernel_rfl);have f:(wf.setRow w.heap.size K2).heap[w.heap.size]?=some (.cells K2 286 (0,0)):=setRow_heap wf _ Ub _ _ _ p.o;have y:=Hd f;clear f;go_wp2_with (first
    |(refine qO rfl (.tmp 1) 286 rfl _ rfl _ O ?_)
    |(refine lF rfl (.tmp 0) (.tmp 32) 286 rfl _ rfl _ rfl R ?_))
   refine bodyPost_ret (v:= .agg K2) ?_ rfl ⟨rfl,x.o.trans ⟨rfl,rfl,rfl,by simp [World.setRow],fun i hi=>setRow_other wf w.heap.size i _ (by omega)⟩⟩;refine results_cell_row (fn:=Tryz.f252) rfl _ _ w.heap.size 286 K2 (0,0) _ ?_ y.o underlying286 rfl (by kernel_rfl);rfl
end
section
open Go.Acc
inductive Tr where
 |mk (k n:Int) (u:Nat) (s:List UInt8) (ks:List (List UInt8)) (l:List Tr)
namespace Tr
def k:Tr→Int| .mk k _ _ _ _ _=>k
def n:Tr→Int| .mk _ n _ _ _ _=>n
def u:Tr→Nat| .mk _ _ u _ _ _=>u
def s:Tr→List UInt8| .mk _ _ _ s _ _=>s
def ks:Tr→List (List UInt8)| .mk _ _ _ _ ks _=>ks
def l:Tr→List Tr| .mk _ _ _ _ _ l=>l
end Tr
structure Bv where
 t:Nat
 w:Nat
 n:Nat
structure Bd where
 b:List UInt8
 s:List Bv
 keys:List (List UInt8×Nat)
 texts:List (List UInt8×Nat)
 lists:List (List UInt8×Nat)
 names:List (Nat×List UInt8)
 vals:List Bv
def bWidth(u:Nat):Nat:=if u<256 then 1 else if u<65536 then 2 else if u<4294967296 then 4 else 8
def bWidthI(n:Int):Nat:=if -128≤n∧n<128 then 1 else if -32768≤n∧n<32768 then 2 else if -2147483648≤n∧n<2147483648 then 4 else 8
def bits(n:Int):Nat:=(n % 18446744073709551616).toNat
def Ma(w n:Nat):Nat:=(w-n % w) % w
def Bn(w:Nat)(l:List UInt8):List UInt8:=l++An (Ma w l.length) 0
def inl(t:Nat):Bool:=Bt t
def upN(n w:Nat):Nat:=(n+w-1)/w*w
def Dz(v:Bv)(a i w:Nat):Bool:=if inl v.t=true then decide (v.w≤w) else decide (v.n≤a∧bWidth (upN a w+i*w-v.n)≤w)
def leastW(f:Nat→Bool):Nat:=if f 1=true then 1 else if f 2=true then 2 else if f 4=true then 4 else if f 8=true then 8 else 0
def D7(a w:Nat):Nat→List Bv→Bool
 |_,[]=>true
 |i,v::r=>Dz v a i w&&D7 a w (i+1) r
def aD(a w:Nat):Option Bv→Bool
 |none=>true
 |some k=>Dz k a 0 w
def Jk(a ahead:Nat)(k:Option Bv)(l:List Bv)(w:Nat):Bool:=(decide (ahead=0)||decide (bWidth l.length≤w))&&aD a w k&&D7 a w ahead l
def C5(a ahead:Nat)(k:Option Bv)(l:List Bv):Nat:=leastW (Jk a ahead k l)
def Dc(w a:Nat)(v:Bv):Nat:=if inl v.t=true then v.n % 2^(8*w) else a-v.n
def Cy(w:Nat):List UInt8→List Bv→List UInt8
 |l,[]=>l
 |l,v::r=>Cy w (l++Bi w (Dc w l.length v)) r
def bCode(w:Nat):Nat:=if w=1 then 0 else if w=2 then 1 else if w=4 then 2 else 3
def D2(w:Nat)(v:Bv):UInt8:=Aq (4*v.t+bCode (if inl v.t=true then w else v.w))
def Cu(t:Nat)(len tags:Bool)(l:List Bv)(b:List UInt8):List UInt8×Bv:=
 let w:=C5 b.length (if len=true then 1 else 0) none l
 let c:=Bn w b++(if len=true then Bi w l.length else [])
 (Cy w c l++(if tags=true then l.map (D2 w) else []),⟨t,w,c.length⟩)
def Gh(k:Bv)(l:List Bv)(b:List UInt8):List UInt8×Bv:=
 let w:=C5 b.length 3 (some k) l
 let a:=Bn w b
 let c:=a++Bi w (a.length-k.n)++Bi w k.w++Bi w l.length
 (Cy w c l++l.map (D2 w),⟨9,w,c.length⟩)
def Cj(l:List (List UInt8×Nat))(k:List UInt8):Option Nat:=(l.find? fun x=>x.1==k).map (·.2)
def Fs(l:List (List UInt8×Nat))(k:List UInt8)(a:Nat):List (List UInt8×Nat):=if(Cj l k).isSome=true then l else l++ [(k,a)]
def Kc(f b:Nat):Bool:=decide (f/b % 2=1)
def Bd.push(b:Bd)(v:Bv):Bd:={ b with s:=b.s++ [v]}
def Bd.put(f:Nat)(s:List UInt8)(b:Bd):Bd×Bv:=
 match(if Kc f 1=true then Cj b.keys s else none) with
 |some a=>(b,⟨4,1,a⟩)
 |none=>({ b with b:=b.b++s++ [0],keys:=Fs b.keys s b.b.length,names:=(b.b.length,s)::b.names},⟨4,1,b.b.length⟩)
def Bd.key(f:Nat)(s:List UInt8)(b:Bd):Bd:=let x:=b.put f s;x.1.push x.2
def Bd.puts(f:Nat):List (List UInt8)→Bd→Bd×List Bv
 | [],b=>(b,[])
 |s::r,b=>let x:=b.put f s;let y:=Bd.puts f r x.1;(y.1,x.2::y.2)
def Bd.apart(t:Nat)(w n:Nat)(b:Bd):Bd:=
 let c:=Bn w b.b
 { b with b:=c++Bi w (n % 2^(8*w)),s:=b.s++ [⟨t,w,c.length⟩]}
def Bd.blob(s:List UInt8)(b:Bd):Bd:=
 let w:=bWidth s.length
 let c:=Bn w b.b++Bi w s.length
 { b with b:=c++s,s:=b.s++ [⟨25,w,c.length⟩]}
def Bd.str(f:Nat)(s:List UInt8)(b:Bd):Bd:=
 let w:=bWidth s.length
 match(if Kc f 2=true then Cj b.texts s else none) with
 |some a=>b.push ⟨5,w,a⟩
 |none=>
  let c:=Bn w b.b++Bi w s.length
  { b with b:=c++s++ [0],s:=b.s++ [⟨5,w,c.length⟩],texts:=Fs b.texts s c.length}
def Bd.vec(t:Nat)(len tags:Bool)(l:List Bv)(b:Bd):Bd:=
 let x:=Cu t len tags l b.b
 { b with b:=x.1,s:=b.s++ [x.2]}
def Bd.endVec(start:Nat)(b:Bd):Bd:=Bd.vec 10 true true (b.s.drop start) { b with s:=b.s.take start}
def Kp:List Bv→List Bv
 | []=>[]
 | [v]=>[v]
 |v::_::r=>v::Kp r
def P9(l:List Bv):List Bv:=Kp l.tail
def Bd.endMap(f:Nat)(keys:List (List UInt8))(start:Nat)(b:Bd):Bd:=
 let vs:=b.s.drop start
 let c:={ b with s:=b.s.take start}
 let list:=keys.flatMap fun s=>s++ [0]
 match(if Kc f 4=true then Cj c.lists list else none) with
 |some i=>let x:=Gh (c.vals.getD i ⟨0,0,0⟩) (P9 vs) c.b;{ c with b:=x.1,s:=c.s++ [x.2]}
 |none=>
  let y:=Cu 14 true false (Kp vs) c.b
  let x:=Gh y.2 (P9 vs) y.1
  { c with b:=x.1,s:=c.s++ [x.2],vals:=c.vals++ [y.2],lists:=Fs c.lists list c.vals.length}
def Gs(n:Int):Bv:=⟨1,bWidthI n,bits n⟩
def Ds(u:Nat):Bv:=⟨2,bWidth u,u⟩
def E3(n:Int):Bv:=⟨26,1,if n=1 then 1 else 0⟩
def Bd.leaf(f:Nat)(k n:Int)(u:Nat)(s:List UInt8)(b:Bd):Bd:=
 if k=1 then b.push ⟨0,1,0⟩
 else if k=2 then b.push (E3 n)
 else if k=3 then b.push (Gs n)
 else if k=4 then b.push (Ds u)
 else if k=5 then b.key f s
 else if k=6 then b.str f s
 else if k=7 then b.blob s
 else if k=8 then b.apart 6 (bWidthI n) (bits n)
 else if k=9 then b.apart 7 (bWidth u) u
 else b
def Bd.flat(f:Nat)(k:Int)(l:List Tr)(b:Bd):Bd:=
 if k=11 then b.vec 11 true false (l.map fun t=>Gs t.n)
 else if k=12 then b.vec 12 true false (l.map fun t=>Ds t.u)
 else if k=14 then b.vec 36 true false (l.map fun t=>E3 t.n)
 else if k=13 then let x:=b.puts f (l.map Tr.s);x.1.vec 14 true false x.2
 else if k=15 then b.vec (10+3*l.length) false false (l.map fun t=>Gs t.n)
 else b.vec (11+3*l.length) false false (l.map fun t=>Ds t.u)
mutual
def Bd.calls(f:Nat):Tr→Bd→Bd
 | .mk k n u s ks l,b=>
  if k=10 then(Bd.callsL f l b).endVec b.s.length
  else if k=17 then(Bd.callsM f ks l b).endMap f ks b.s.length
  else if k≤9 then b.leaf f k n u s
  else b.flat f k l
def Bd.callsL(f:Nat):List Tr→Bd→Bd
 | [],b=>b
 |t::r,b=>Bd.callsL f r (Bd.calls f t b)
def Bd.callsM(f:Nat):List (List UInt8)→List Tr→Bd→Bd
 |_,[],b=>b
 |ks,t::r,b=>Bd.callsM f ks.tail r (Bd.calls f t (b.key f (ks.headD [])))
end
def Bd.new:Bd:=⟨[],[],[],[],[],[],[]⟩
def Bd.finish(b:Bd):List UInt8:=
 match b.s with
 | [v]=>
  let w:=leastW (Dz v b.b.length 0)
  let c:=Bn w b.b
  c++Bi w (Dc w c.length v)++ [D2 w v,Aq w]
 |_=>[]
def F5(f:Nat)(t:Tr):List UInt8:=(Bd.calls f t Bd.new).finish
end
section
open Go.Acc
def At(l:List UInt8)(a:Nat)(m:List UInt8):Prop:=∃p q,l=p++m++q∧p.length=a
theorem At.app{l:List UInt8}(h:At l a m)(x:List UInt8):At (l++x) a m:=by
 obtain⟨p,q,rfl,rfl⟩:=h;exact⟨p,q++x,by simp,rfl⟩
theorem At.last(l m:List UInt8):At (l++m) l.length m:=⟨l,[],by simp,rfl⟩
theorem At.left{l:List UInt8}(h:At l a (m++m')):At l a m:=by
 obtain⟨p,q,rfl,rfl⟩:=h;exact⟨p,m'++q,by simp,rfl⟩
theorem At.right{l:List UInt8}(h:At l a (m++m')):At l (a+m.length) m':=by
 obtain⟨p,q,rfl,rfl⟩:=h;exact⟨p++m,q,by simp,by simp⟩
theorem At.le{l:List UInt8}(h:At l a m):a+m.length≤l.length:=by
 obtain⟨p,q,rfl,rfl⟩:=h;simp
theorem At.take{l:List UInt8}(h:At l a m):(l.drop a).take m.length=m:=by
 obtain⟨p,q,rfl,rfl⟩:=h;simp
theorem At.get{l:List UInt8}(h:At l a m)(hi:i<m.length):l[a+i]?=m[i]?:=by
 obtain⟨p,q,rfl,rfl⟩:=h;rw [Ax,List.getElem?_append_right (by omega),List.getElem?_append_left (by omega)]
 congr 1
 omega
theorem At.load{l:List UInt8}{w u:Nat}(h:At l a (Bi w u))(hw:Br w=true):loadU l a w=Dp (Bi w u):=by
 have h1:=h.le;have h2:=h.take;rw [B3] at h1 h2;have h3:(0:Int)≤a∧(a:Int)+w≤l.length:=by omega
 simp only [loadU,hw,h3,Ao,h2,and_self,if_true]
theorem Hz(w:Nat):∀(vs:List Bv) (l:List UInt8),∃m,Cy w l vs=l++m∧m.length=w*vs.length
 | [],l=>⟨[],by simp [Cy]⟩
 |v::r,l=>by
  obtain⟨m,e,h⟩:=Hz w r (l++Bi w (Dc w l.length v));refine⟨Bi w (Dc w l.length v)++m,by rw [Cy,e,Ax],?_⟩;rw [Ak,B3,h,List.length_cons,Nat.mul_add,Nat.mul_one,Nat.add_comm]
theorem Qn(t:Nat)(len tags:Bool)(l:List Bv)(b:List UInt8):∃m,(Cu t len tags l b).1=b++m:=by
 obtain⟨w,hw⟩:∃w,C5 b.length (if len=true then 1 else 0) none l=w:=⟨_,rfl⟩;simp only [Cu,hw];obtain⟨m,e,_⟩:=Hz w l (Bn w b++(if len=true then Bi w l.length else []));exact⟨_,by rw [e,Bn,Ax,Ax,Ax]⟩
theorem bH(k:Bv)(l:List Bv)(b:List UInt8):∃m,(Gh k l b).1=b++m:=by
 obtain⟨w,hw⟩:∃w,C5 b.length 3 (some k) l=w:=⟨_,rfl⟩;simp only [Gh,hw];obtain⟨m,e,_⟩:=Hz w l (Bn w b++Bi w ((Bn w b).length-k.n)++Bi w k.w++Bi w l.length);exact⟨An (Ma w b.length) 0++(Bi w ((Bn w b).length-k.n)++(Bi w k.w++(Bi w l.length++(m++l.map (D2 w))))),by rw [e];simp only [Bn,Ax]⟩
end
end Go.Proofs.YtejpbijeifjdeaaGreat
