/- Parts of the proof. -/
import Derived.Test.YtejpbijeifjdeaaGreatQk01
import Derived.Lib.AppendZeros
import Derived.Deep.WholeRow
import Derived.Deep.DeepCutAuto
set_option maxHeartbeats 8000000
set_option maxRecDepth 100000
open Go.Value renaming int→Aa
open Go.IntKind renaming i64→Ab,u64→Ac
open Nat renaming le_refl→Ae,le_succ→Ai
open Go.RowKit.Below renaming refl→Af
open List renaming replicate→Ak,length_append→An,append_assoc→Aw
open UInt8 renaming ofNat→Ar
open Go.Proofs.Tryz
open Go.Proofs.Tryz renaming prog→Ad
namespace Go.Acc
open Go.RowKit
section
variable {P:Program} (w:World)
theorem P1(t tn ty e:TypeId)(i:TypeInfo)(z:Value)(k kn:IntKind)(ht:P.underlying t=some (.slice e))(htn:P.underlying tn=some (.int kn))(hi:P.info? e=some i)(hz:i.zero=some z)
  (g n cap:Nat) (cur:Array Value) (hg:w.heap[g]?=some (.cells cur e (0,0))) (m:Nat) (h0:0<m) (hs:0<i.size) (hzs:z.cells.size=i.size) (h63:(m:Int)≤9223372036854775807) (h48:m*i.bytes≤281474976710656)
  (hroom:n+m≤cap) (h1:∀u∈(Builtin.zeroCells z.cells m).toList,u.oneCell'=true) (hfit:n*i.size+m*i.size≤cur.size):
  (Builtin.append_ #[t,tn] ty #[.slice (some ⟨g,0,none⟩) n cap,.int k m]).run P w=
   .ok (.slice (some ⟨g,0,none⟩) (n+m) cap) (w.setRow g (cur.toList.take (n*i.size)++(Builtin.zeroCells z.cells m).toList++cur.toList.drop (n*i.size+(Builtin.zeroCells z.cells m).toList.length)).toArray):=by
 have f:(Builtin.zeroCells z.cells m).toList.length=m*i.size:=by rw [Array.length_toList,size_zeroCells,hzs]
 have c:=run_storeCells_at P g (n*i.size) e (Builtin.zeroCells z.cells m).toList 0 cur w hg (by rw [f];omega) h1;simp only [Nat.add_zero] at c;have h:m≠0:=by omega
 have j:IntKind.i64.wrap (m:Int)=m:=by rw [IntKind.wrap_i64];omega
 have a:¬(281474976710656<(m:Int)*(i.bytes:Int)):=by rw [←Int.natCast_mul];omega
 have b:¬((m:Int)<0):=by omega
 have d:¬(m*i.size=0):=Nat.mul_ne_zero h (by omega);simp [Builtin.append_,run_underlying ht,run_underlying htn,sizeOf,typeInfo,zeroValue,hi,hz,asInt,asIntOf,j,b,d,a,hroom,Addr.add_lit,c]
theorem P0(t tn ty e:TypeId)(i:TypeInfo)(z:Value)(k kn:IntKind)(ht:P.underlying t=some (.slice e))(htn:P.underlying tn=some (.int kn))(hi:P.info? e=some i)(hz:i.zero=some z)
  (b:Addr) (n cap:Nat) (olds:List Value) (hlo:olds.length=n*i.size) (holds:∀j v,olds[j]?=some v→w.cell? (b.add j)=some v)
  (m:Nat) (h0:0<m) (hs:0<i.size) (h63:((n+m:Nat):Int)≤9223372036854775807) (h48:m*i.bytes≤281474976710656) (hg:cap<n+m) (hfit:Builtin.nextslicecap (n+m) cap*i.bytes≤281474976710656):
  (Builtin.append_ #[t,tn] ty #[.slice (some b) n cap,.int k m]).run P w=
   .ok (.slice (some ⟨w.heap.size,0,none⟩) (n+m) (grownCap w (n+m) cap e))
    (w.drew.alloc (.cells (olds.toArray++(Builtin.zeroCells z.cells m)++Builtin.zeroCells z.cells (grownCap w (n+m) cap e-(n+m))) e)):=by
 have h:¬(n+m≤cap):=by omega
 have o:m≠0:=by omega
 have p:IntKind.i64.wrap (m:Int)=m:=by rw [IntKind.wrap_i64];omega
 have d:¬(9223372036854775807<((n:Int)+(m:Int))):=by omega
 have a:¬(281474976710656<Builtin.nextslicecap (n+m) cap*i.bytes):=by omega
 have c:¬(281474976710656<(m:Int)*(i.bytes:Int)):=by rw [←Int.natCast_mul];omega
 have f:¬((m:Int)<0):=by omega
 have l:¬(m*i.size=0):=Nat.mul_ne_zero o (by omega);have g:=run_firstCells_some (P:=P) w.drew i.size n b n cap olds hlo (by simpa using holds);simp [Builtin.append_,run_underlying ht,run_underlying htn,sizeOf,typeInfo,zeroValue,hi,hz,asInt,asIntOf,p,h,f,l,d,a,c,Question.forced,g,newRow,grownCap]
theorem Rg(base:Nat)(t tn ty e:TypeId)(i:TypeInfo)(z:Value)(k kn:IntKind)(size bytes:Nat)(ht:P.underlying t=some (.slice e))(htn:P.underlying tn=some (.int kn))(hi:P.info? e=some i)(hz:i.zero=some z)
  (hsize:i.size=size) (hby:i.bytes=bytes) (hzs:z.cells.size=size) (hsz:0<size) (h1:∀m,∀u∈(Builtin.zeroCells z.cells m).toList,u.oneCell'=true)
  (v:Value) (n:Nat) (xs:List Value) (hown:w.ownsRow base e size v n xs) (m:Nat) (h0:0<m)
  (h63:n+m≤maxLen) (hbytes:(n+m)*bytes≤140737488355328) (hbase:base≤w.heap.size):
  ∃v' w',(Builtin.append_ #[t,tn] ty #[v,.int k m]).run P w= .ok v' w'∧w'.ownsRow base e size v' (n+m) (xs++(Builtin.zeroCells z.cells m).toList)∧w.grownBy w' v.ownBlock∧
   (v'.ownBlock=v.ownBlock∨v'.ownBlock=some w.heap.size):=by
 subst hsize;subst hby
 have y:n+m≤9223372036854775807:=by simp only [maxLen] at h63;omega
 have o:m*i.bytes≤281474976710656:=by rw [Nat.add_mul] at hbytes;omega
 have s:(Builtin.zeroCells z.cells m).toList.length=m*i.size:=by rw [Array.length_toList,size_zeroCells,hzs]
 have b:(xs++(Builtin.zeroCells z.cells m).toList).length=(n+m)*i.size:=by rw [An,hown.1,s,Nat.add_mul]
 have f:∀(old:Nat),old<n+m→∀(row:Option Nat),
   (w.drew.alloc (.cells (xs.toArray++Builtin.zeroCells z.cells m++Builtin.zeroCells z.cells (grownCap w (n+m) old e-(n+m))) e)).ownsRow base e i.size
    (.slice (some ⟨w.heap.size,0,none⟩) (n+m) (grownCap w (n+m) old e)) (n+m) (xs++(Builtin.zeroCells z.cells m).toList)∧
   w.grownBy (w.drew.alloc (.cells (xs.toArray++Builtin.zeroCells z.cells m++Builtin.zeroCells z.cells (grownCap w (n+m) old e-(n+m))) e)) row:=by
  intro old G row;have C:=grownCap_ge w (n+m) old e;have l:grownCap w (n+m) old e≤maxLen:=grownCap_le_maxLen w (n+m) old e h63;refine⟨⟨b,.inr ⟨w.heap.size,_,_,rfl,hbase,heap_alloc_new w.drew _,C,l,?_,?_⟩⟩,⟨rfl,rfl,rfl,by simp,fun k hk _=>Below.heap_alloc w.drew _ k hk⟩⟩
  ·simp only [Array.size_append,List.size_toArray,size_zeroCells,hzs,hown.1,←Nat.add_mul]
   congr 1
   omega
  ·simp only [Array.toList_append,Aw];rw [←Aw,←b];exact List.take_left
 rcases hown.2 with⟨rfl,rfl⟩|⟨g,c,h,rfl,A,D,E,l,B,q⟩
 ·have F:xs=[]:=List.eq_nil_of_length_eq_zero (by simpa using hown.1);subst F;have x:=Lib.run_append_nil_zeros (P:=P) w t tn ty e i z k kn ht htn hi hz m h0 hsz (by omega) o;have d:=f 0 (by omega) (Value.ownBlock (.slice none 0 0));simp only [Nat.zero_add,List.nil_append,Array.empty_append] at d⊢;exact⟨_,_,x,d.1,d.2,Or.inr rfl⟩
 ·by_cases a:n+m≤c
  ·have r:n*i.size+m*i.size≤h.size:=by rw [B,←Nat.add_mul];exact Nat.mul_le_mul_right _ a
   have x:=P1 (P:=P) w t tn ty e i z k kn ht htn hi hz g n c h D m h0 hsz hzs (by omega) o a (h1 m) r;refine⟨_,_,x,⟨b,.inr ⟨g,c,_,rfl,A,setRow_heap w g h _ e _ D,a,l,?_,?_⟩⟩,⟨rfl,rfl,rfl,by simp,fun k _ hk=>setRow_other w g k _ (fun e=>hk (by simp [Value.ownBlock,e]))⟩,Or.inl rfl⟩
   ·simp only [List.size_toArray,An,List.length_take,List.length_drop,Array.length_toList];rw [Array.length_toList] at s;omega
   ·rw [q,←b];exact List.take_left
  ·have p:∀j u,xs[j]?=some u→w.cell? ((⟨g,0,none⟩:Addr).add j)=some u:=hown.cells (g:=g) rfl;have x:=P0 (P:=P) w t tn ty e i z k kn ht htn hi hz ⟨g,0,none⟩ n c xs hown.1 p m h0 hsz (by omega) o (by omega) (growslice_fits (by omega) hbytes);have d:=f c (by omega) (Value.ownBlock (.slice (some ⟨g,0,none⟩) n c));exact⟨_,_,x,d.1,d.2,Or.inr rfl⟩
end
section
variable {α:Type} {f:α→List Value} {P:Program} (w:World)
theorem Ze{zs:Array Value}{x:α}(hx:f x=zs.toList)(h0:0<zs.size)(m:Nat)(hf:∀x,(f x).length=zs.size):(Builtin.zeroCells zs m).toList=(Ak m x).flatMap f:=by
 apply List.ext_getElem?;intro j;by_cases a:j<m*zs.size
 ·have c:j/zs.size<m:=Nat.div_lt_of_lt_mul (by rw [Nat.mul_comm];exact a);have b:j % zs.size<zs.size:=Nat.mod_lt _ h0;have h1:=Ic hf (Ak m x) (j/zs.size) (j % zs.size) (by simpa using c) b;rw [show j/zs.size*zs.size+j % zs.size=j by rw [Nat.mul_comm];exact Nat.div_add_mod j zs.size,List.getElem_replicate,hx] at h1;rw [h1];simp [Builtin.zeroCells,a,b]
 ·rw [List.getElem?_eq_none (by simp [Builtin.zeroCells];omega),List.getElem?_eq_none (by rw [Cd hf];simp;omega)]
theorem aS{ops:Array Oper}{rest:List Oper}{o:Oper}{a:Act}{Q:Exit→Act→World→Prop}(hgd:Region.wanted o (yielded ops a.tmps)=true)(s x:Operand)(t tn:TypeId)
  (ho:o.op= .call { callee:= .builtin .append,args:=#[s,x],argTypes:=#[t,tn]})
  (e:TypeId) (z:Value) (sz bytes:Nat) (k kn:IntKind) (ht:P.underlying t=some (.slice e)) (htn:P.underlying tn=some (.int kn)) (hi:(P.info? e).map (fun i=>(i.zero,i.size,i.bytes))=some (some z,sz,bytes))
  (hzs:z.cells.size=sz) (hsz:0<sz) (hf:∀x,(f x).length=sz) (h1:∀x,∀u∈f x,u.oneCell'=true) (x0:α) (hx0:f x0=z.cells.toList)
  (B:Nat) (A:Option Addr) (n c:Nat) (l:List α) (hs:a.eval s= .slice A n c) (hown:Own f sz e w B A n c l)
  (m:Nat) (M:Int) (hx:a.eval x= .int k M) (hM:M=m) (hm:0<m)
  (hbytes:(n+m)*(bytes+1)≤140737488355328) (hbase:B≤w.heap.size)
  (h:∀A' c' w',Own f sz e w' B A' (n+m) c' (l++Ak m x0)→Fr (fun k=>∃ad,A=some ad∧k=ad.block) w w'→
   (A'.map (·.block)=A.map (·.block)∨A'.map (·.block)=some w.heap.size)→wpList P ops Q rest (a.put o.dst (.slice A' (n+m) c')) w'):
  wpList P ops Q (o::rest) a w:=by
 subst hM;obtain⟨i,p,C,b,j⟩:=info_parts hi;have v:(n+m)*bytes≤140737488355328:=Nat.le_trans (Nat.mul_le_mul_left _ (Ai _)) hbytes;have y:n+m≤maxLen:=by
  have:n+m≤(n+m)*(bytes+1):=Nat.le_mul_of_pos_right _ (Nat.succ_pos _);simp only [maxLen];omega
 have g:∀m,(Builtin.zeroCells z.cells m).toList=(Ak m x0).flatMap f:=fun m=>Ze hx0 (by rw [hzs];exact hsz) m (fun x=>by rw [hf,hzs])
 refine BigFrame.wpList_want hgd fun _ hK=>?_
 obtain⟨D,w',d,h2,h3,r⟩:=Rg (P:=P) w B t tn o.type e i z k kn sz bytes ht htn p C b j hzs hsz (fun m=>by rw [g];exact No h1 _) _ n (l.flatMap f) hown.2 m hm y v hbase;unfold Oper.wp execOp;simp only [ho,resolve,invoke,builtin,Sem.run_bind,Sem.run_pure,Result.andThen_ok,List.map_toArray,List.map_cons,List.map_nil,hs,hx,d];rw [g] at h2;obtain⟨A',c',rfl,q⟩:=Own.mk hf hsz (l:=l++Ak m x0) h2 List.flatMap_append.symm;refine hK _ _ (h A' c' w' q ((Fr.of_grown h3).mono fun i _ hi=>?_) ?_)
 ·cases A with
  |none=>simp [Value.ownBlock] at hi
  |some ad=>simp [Value.ownBlock] at hi;exact⟨ad,rfl,hi⟩
 ·cases A <;>cases A' <;>simp only [Value.ownBlock,Option.map] at r⊢ <;>exact r
end
end Go.Acc
namespace Go.Proofs.YtejpbijeifjdeaaGreat
variable {y off c g:Nat}{cur cur':Array Value}{vs:List Value}{v:Value}{w w' W:World}{A:Option Addr}{m:List UInt8}{i:Int}{ops:Array Oper}{rest:List Oper}{o:Oper}{a:Act}{Q:Exit→Act→World→Prop}
section
open Go.RowKit Go.Acc
def Cf(w u:Nat):Bool:=decide (w=8∨u<2^(8*w))
def D2(w:Nat)(n:Int):Bool:=decide (w=8∨(-(2^(8*w-1))≤n∧n<2^(8*w-1)))
theorem Df(h:Bt (y:Int)=true):y=1∨y=2∨y=4∨y=8:=by have:=Bz.1 h;omega
def Bn(n u:Nat):List UInt8:=(List.range n).map fun i=>Ar (u/2^(8*i))
theorem B9(n u:Nat):(Bn n u).length=n:=by simp [Bn]
theorem gV(n u k:Nat)(hk:k<(Bn n u).length):(Bn n u)[k]=UInt8.ofNat (u/2^(8*k)):=by simp [Bn]
theorem pS(y u:Nat)(w:World)(hy:Bt (y:Int)=true)(hu:(u:Int)<18446744073709551616):Calls Ad 27 #[Aa Ab y,Aa Ac u] w (Adi (.bool (Cf y u)) w):=by
 have a:(0:Int)≤u:=by omega
 rcases Df hy with rfl|rfl|rfl|rfl
 ·by_cases h:u<256
  ·have H:=Hd (show Cf 1 u=true from decide_eq_true (.inr h));have e:((u:Int)/256==0)=true:=by rw [beq_iff_eq];omega
   clear h hy;go_enter func27,ntmps27;go_wp2;go_ret;exact⟨Bu H.o.symm,rfl⟩
  ·have H:=Hd (show Cf 1 u=false from decide_eq_false (by rintro(h'|h') <;>first|exact h h'|omega));have e:((u:Int)/256==0)=false:=by rw [beq_eq_false_iff_ne];omega
   clear h hy;go_enter func27,ntmps27;go_wp2;go_ret;exact⟨Bu H.o.symm,rfl⟩
 ·by_cases h:u<65536
  ·have H:=Hd (show Cf 2 u=true from decide_eq_true (.inr h));have e:((u:Int)/65536==0)=true:=by rw [beq_iff_eq];omega
   clear h hy;go_enter func27,ntmps27;go_wp2;go_ret;exact⟨Bu H.o.symm,rfl⟩
  ·have H:=Hd (show Cf 2 u=false from decide_eq_false (by rintro(h'|h') <;>first|exact h h'|omega));have e:((u:Int)/65536==0)=false:=by rw [beq_eq_false_iff_ne];omega
   clear h hy;go_enter func27,ntmps27;go_wp2;go_ret;exact⟨Bu H.o.symm,rfl⟩
 ·by_cases h:u<4294967296
  ·have H:=Hd (show Cf 4 u=true from decide_eq_true (.inr h));have e:((u:Int)/4294967296==0)=true:=by rw [beq_iff_eq];omega
   clear h hy;go_enter func27,ntmps27;go_wp2;go_ret;exact⟨Bu H.o.symm,rfl⟩
  ·have H:=Hd (show Cf 4 u=false from decide_eq_false (by rintro(h'|h') <;>first|exact h h'|omega));have e:((u:Int)/4294967296==0)=false:=by rw [beq_eq_false_iff_ne];omega
   clear h hy;go_enter func27,ntmps27;go_wp2;go_ret;exact⟨Bu H.o.symm,rfl⟩
 ·go_enter func27,ntmps27;go_wp2;go_ret;exact⟨rfl,rfl⟩
def L9(cur:Array Value)(off:Nat)(vs:List Value)(k:Nat)(cur':Array Value):Prop:=
 cur'.size=cur.size∧∀j,cur'[j]?=if off≤j∧j<off+k then vs[j-off]? else cur[j]?
theorem L9.zero(cur:Array Value)(off:Nat)(vs:List Value):L9 cur off vs 0 cur:=⟨rfl,fun j=>by rw [if_neg (by omega)]⟩
theorem L9.step{k:Nat}(h:L9 cur off vs k cur')(hv:vs[k]?=some v)(hk:off+k<cur.size):L9 cur off vs (k+1) (cur'.setIfInBounds (off+k) v):=by
 refine⟨by simpa using h.1,fun j=>?_⟩;rw [Array.getElem?_setIfInBounds,h.2];by_cases e:off+k=j
 ·subst e;rw [if_pos rfl,if_pos (by rw [h.1];exact hk),if_pos (by omega),Nat.add_sub_cancel_left,hv]
 ·rw [if_neg e];by_cases h1:off≤j∧j<off+k
  ·rw [if_pos h1,if_pos (by omega)]
  ·rw [if_neg h1,if_neg (by omega)]
theorem L9.take{n m:Nat}(h:L9 cur off vs n cur')(hv:vs.length=n)(hm:off+n≤m)(hs:m≤cur.size):cur'.toList.take m=(cur.toList.take m).take off++vs++(cur.toList.take m).drop (off+n):=by
 apply List.ext_getElem?;intro j;rw [List.getElem?_take];have a:=h.2 j;rw [←Array.getElem?_toList] at a;split
 ·rename_i hjm;rw [a];by_cases h1:j<off
  ·rw [if_neg (by omega),Aw,List.getElem?_append_left (by simp;omega),List.getElem?_take,if_pos h1,List.getElem?_take,if_pos hjm,Array.getElem?_toList]
  ·by_cases h2:j<off+n
   ·rw [if_pos (by omega),Aw,List.getElem?_append_right (by simp;omega),List.getElem?_append_left (by simp;omega)]
    congr 1
    simp;omega
   ·rw [if_neg (by omega),List.getElem?_append_right (by simp;omega),List.getElem?_drop,List.getElem?_take,←Array.getElem?_toList];have e:off+n+(j-((cur.toList.take m).take off++vs).length)=j:=by simp;omega
    rw [e,if_pos hjm]
 ·rename_i hjm;rw [List.getElem?_eq_none];simp;omega
theorem lT(u k:Nat):(u:Int)/2^(8*k) % 256=((Ar (u/2^(8*k))).toNat:Int):=by
 have e:(u:Int)/2^(8*k)=((u/2^(8*k):Nat):Int):=by simp
 rw [e,UInt8.toNat_ofNat'];omega
theorem gK(g off n c u:Nat)(cur:Array Value)(w:World)(hb:Bh w g 5 cur)(ho:off+n≤cur.size)(hn:n≤8)(hu:(u:Int)<18446744073709551616):
  Calls Ad 59 #[.slice (some ⟨g,off,none⟩) n c,Aa Ac u] w fun e w'=>e= .returned (.tuple #[])∧∃cur',Bh w' g 5 cur'∧L9 cur off ((Bn n u).flatMap bc) n cur'∧Fr (fun k=>k=g) w w':=by
 have d:=Hd hb;have s:(0:Int)≤u:=by omega
 clear hb;go_enter func59,ntmps59;go_wp2;go_loopw [7] (fun i wr=>∃(k:Nat) (cur':Array Value),k≤n∧i= Aa Ab k∧Bh wr g 5 cur'∧L9 cur off ((Bn n u).flatMap bc) k cur'∧Fr (fun k=>k=g) w wr) (fun i _=>n-(intOf i).toNat)
 case atStart=>exact⟨0,cur,by omega,rfl,d.o,L9.zero _ _ _,Fr.refl _ _⟩
 case round=>
  obtain⟨k,cur',x,rfl,b,f,j⟩:=hrel;by_cases p:k<n
  ·have a:∃v,wr.cell? ⟨g,off+k,none⟩=some v:=⟨_,(b.cell (off+k)).trans (Array.getElem?_eq_getElem (by rw [f.1];omega))⟩;obtain⟨v,y⟩:=a;have t:=b.frozen (off+k);have q:=lT u k;have h:((Bn n u).flatMap bc)[k]?=some (.int .u8 ((Ar (u/2^(8*k))).toNat:Int)):=by
    have:=Ic Cn (Bn n u) k 0 (by rw [B9];exact p) (by omega);rw [Nat.mul_one,Nat.add_zero,gV] at this;exact this
   have r:=Hd q;have d:=Hd b;have m:=Hd (f.step h (by omega));have l:=Hd j;clear b f j q h;go_wp2;rw [r.o];exact⟨⟨k+1,_,by omega,by go_num,d.o.set_ _ _,m.o,Fr.setCell (S:=fun k=>k=g) l.o (fun _=>rfl) _⟩,by simp [intOf];omega⟩
  ·obtain rfl:k=n:=by omega
   have d:=Hd b;have m:=Hd f;have l:=Hd j;clear b f j;go_wp2;go_end0;exact⟨rfl,cur',d.o,m.o,l.o⟩
theorem nG(y u:Nat)(w:World)(hy:Bt (y:Int)=true)(hu:(u:Int)<18446744073709551616):Calls Ad 100 #[Aa Ab y,Aa Ac u] w (Adi (.bool (Cf y u)) w):=by
 have a:(0:Int)≤u:=by omega
 have b:=Hd hu;clear hu;rcases Df hy with rfl|rfl|rfl|rfl
 ·by_cases h:u<256
  ·have H:=Hd (show Cf 1 u=true from decide_eq_true (.inr h));have e:decide ((u:Int)<256)=true:=by simp;omega
   clear h hy;go_enter func100,ntmps100;go_wp2;go_ret;exact⟨Bu H.o.symm,rfl⟩
  ·have H:=Hd (show Cf 1 u=false from decide_eq_false (by rintro(h'|h') <;>first|exact h h'|omega));have e:decide ((u:Int)<256)=false:=by simp;omega
   clear h hy;go_enter func100,ntmps100;go_wp2;go_ret;exact⟨Bu H.o.symm,rfl⟩
 ·by_cases h:u<65536
  ·have H:=Hd (show Cf 2 u=true from decide_eq_true (.inr h));have e:decide ((u:Int)<65536)=true:=by simp;omega
   clear h hy;go_enter func100,ntmps100;go_wp2;go_ret;exact⟨Bu H.o.symm,rfl⟩
  ·have H:=Hd (show Cf 2 u=false from decide_eq_false (by rintro(h'|h') <;>first|exact h h'|omega));have e:decide ((u:Int)<65536)=false:=by simp;omega
   clear h hy;go_enter func100,ntmps100;go_wp2;go_ret;exact⟨Bu H.o.symm,rfl⟩
 ·by_cases h:u<4294967296
  ·have H:=Hd (show Cf 4 u=true from decide_eq_true (.inr h));have e:decide ((u:Int)<4294967296)=true:=by simp;omega
   clear h hy;go_enter func100,ntmps100;go_wp2;go_ret;exact⟨Bu H.o.symm,rfl⟩
  ·have H:=Hd (show Cf 4 u=false from decide_eq_false (by rintro(h'|h') <;>first|exact h h'|omega));have e:decide ((u:Int)<4294967296)=false:=by simp;omega
   clear h hy;go_enter func100,ntmps100;go_wp2;go_ret;exact⟨Bu H.o.symm,rfl⟩
 ·go_enter func100,ntmps100;go_wp2;go_ret;exact⟨rfl,rfl⟩
theorem Dp{n:Int}:D2 y n=true↔(y=8∨(-(2^(8*y-1))≤n∧n<2^(8*y-1))):=by simp [D2]
theorem lW(y:Nat)(n:Int)(w:World)(hy:Bt (y:Int)=true)(h1: -9223372036854775808≤n)(h2:n≤9223372036854775807):Calls Ad 68 #[Aa Ab y,Aa Ab n] w (Adi (.bool (D2 y n)) w):=by
 rcases Df hy with rfl|rfl|rfl|rfl
 ·by_cases h: -128≤n∧n<128
  ·have H:=Hd (show D2 1 n=true from Dp.2 (.inr (by simpa using h)));by_cases h0:0≤n
   ·have a:n/128=0:=by omega
    clear h hy;go_enter func68,ntmps68;go_wp2;go_ret;exact⟨Bu H.o.symm,rfl⟩
   ·have a:n/128= -1:=by omega
    clear h hy;go_enter func68,ntmps68;go_wp2;go_ret;exact⟨Bu H.o.symm,rfl⟩
  ·have H:=Hd (show D2 1 n=false from by rw [←Bool.not_eq_true];intro c;rcases Dp.1 c with b|b <;>first|omega|exact h (by simpa using b));have a:(n/128==0)=false:=by rw [beq_eq_false_iff_ne];omega
   have d:(n/128== -1)=false:=by rw [beq_eq_false_iff_ne];omega
   clear h hy;go_enter func68,ntmps68;go_wp2;go_ret;exact⟨Bu H.o.symm,rfl⟩
 ·by_cases h: -32768≤n∧n<32768
  ·have H:=Hd (show D2 2 n=true from Dp.2 (.inr (by simpa using h)));by_cases h0:0≤n
   ·have a:n/32768=0:=by omega
    clear h hy;go_enter func68,ntmps68;go_wp2;go_ret;exact⟨Bu H.o.symm,rfl⟩
   ·have a:n/32768= -1:=by omega
    clear h hy;go_enter func68,ntmps68;go_wp2;go_ret;exact⟨Bu H.o.symm,rfl⟩
  ·have H:=Hd (show D2 2 n=false from by rw [←Bool.not_eq_true];intro c;rcases Dp.1 c with b|b <;>first|omega|exact h (by simpa using b));have a:(n/32768==0)=false:=by rw [beq_eq_false_iff_ne];omega
   have d:(n/32768== -1)=false:=by rw [beq_eq_false_iff_ne];omega
   clear h hy;go_enter func68,ntmps68;go_wp2;go_ret;exact⟨Bu H.o.symm,rfl⟩
 ·by_cases h: -2147483648≤n∧n<2147483648
  ·have H:=Hd (show D2 4 n=true from Dp.2 (.inr (by simpa using h)));by_cases h0:0≤n
   ·have a:n/2147483648=0:=by omega
    clear h hy;go_enter func68,ntmps68;go_wp2;go_ret;exact⟨Bu H.o.symm,rfl⟩
   ·have a:n/2147483648= -1:=by omega
    clear h hy;go_enter func68,ntmps68;go_wp2;go_ret;exact⟨Bu H.o.symm,rfl⟩
  ·have H:=Hd (show D2 4 n=false from by rw [←Bool.not_eq_true];intro c;rcases Dp.1 c with b|b <;>first|omega|exact h (by simpa using b));have a:(n/2147483648==0)=false:=by rw [beq_eq_false_iff_ne];omega
   have d:(n/2147483648== -1)=false:=by rw [beq_eq_false_iff_ne];omega
   clear h hy;go_enter func68,ntmps68;go_wp2;go_ret;exact⟨Bu H.o.symm,rfl⟩
 ·have H:=Hd (show D2 8 n=true from Dp.2 (.inl rfl));by_cases h0:0≤n
  ·have a:n/9223372036854775808=0:=by omega
   clear hy;go_enter func68,ntmps68;go_wp2;go_ret;exact⟨Bu H.o.symm,rfl⟩
  ·have a:n/9223372036854775808= -1:=by omega
   clear hy;go_enter func68,ntmps68;go_wp2;go_ret;exact⟨Bu H.o.symm,rfl⟩
theorem iH(y:Nat)(n:Int)(w:World)(hy:Bt (y:Int)=true):Calls Ad 178 #[Aa Ab y,Aa Ab n] w (Adi (.bool (D2 y n)) w):=by
 rcases Df hy with rfl|rfl|rfl|rfl
 ·by_cases h: -128≤n
  ·by_cases a:n<128
   ·have H:=Hd (show D2 1 n=true from Dp.2 (.inr (by simpa using⟨h,a⟩)));have c:decide (-128≤n)=true:=decide_eq_true h;have d:decide (n<128)=true:=decide_eq_true a;clear h a hy;go_enter func178,ntmps178;go_wp2;go_ret;exact⟨Bu H.o.symm,rfl⟩
   ·have H:=Hd (show D2 1 n=false from by rw [←Bool.not_eq_true];intro b;rcases Dp.1 b with h''|h'' <;>first|omega|exact a (by simpa using h''.2));have c:decide (-128≤n)=true:=decide_eq_true h;have d:decide (n<128)=false:=decide_eq_false a;clear h a hy;go_enter func178,ntmps178;go_wp2;go_ret;exact⟨Bu H.o.symm,rfl⟩
  ·have H:=Hd (show D2 1 n=false from by rw [←Bool.not_eq_true];intro b;rcases Dp.1 b with h''|h'' <;>first|omega|exact h (by simpa using h''.1));have c:decide (-128≤n)=false:=decide_eq_false h;clear h hy;go_enter func178,ntmps178;go_wp2;go_ret;exact⟨Bu H.o.symm,rfl⟩
 ·by_cases h: -32768≤n
  ·by_cases a:n<32768
   ·have H:=Hd (show D2 2 n=true from Dp.2 (.inr (by simpa using⟨h,a⟩)));have c:decide (-32768≤n)=true:=decide_eq_true h;have d:decide (n<32768)=true:=decide_eq_true a;clear h a hy;go_enter func178,ntmps178;go_wp2;go_ret;exact⟨Bu H.o.symm,rfl⟩
   ·have H:=Hd (show D2 2 n=false from by rw [←Bool.not_eq_true];intro b;rcases Dp.1 b with h''|h'' <;>first|omega|exact a (by simpa using h''.2));have c:decide (-32768≤n)=true:=decide_eq_true h;have d:decide (n<32768)=false:=decide_eq_false a;clear h a hy;go_enter func178,ntmps178;go_wp2;go_ret;exact⟨Bu H.o.symm,rfl⟩
  ·have H:=Hd (show D2 2 n=false from by rw [←Bool.not_eq_true];intro b;rcases Dp.1 b with h''|h'' <;>first|omega|exact h (by simpa using h''.1));have c:decide (-32768≤n)=false:=decide_eq_false h;clear h hy;go_enter func178,ntmps178;go_wp2;go_ret;exact⟨Bu H.o.symm,rfl⟩
 ·by_cases h: -2147483648≤n
  ·by_cases a:n<2147483648
   ·have H:=Hd (show D2 4 n=true from Dp.2 (.inr (by simpa using⟨h,a⟩)));have c:decide (-2147483648≤n)=true:=decide_eq_true h;have d:decide (n<2147483648)=true:=decide_eq_true a;clear h a hy;go_enter func178,ntmps178;go_wp2;go_ret;exact⟨Bu H.o.symm,rfl⟩
   ·have H:=Hd (show D2 4 n=false from by rw [←Bool.not_eq_true];intro b;rcases Dp.1 b with h''|h'' <;>first|omega|exact a (by simpa using h''.2));have c:decide (-2147483648≤n)=true:=decide_eq_true h;have d:decide (n<2147483648)=false:=decide_eq_false a;clear h a hy;go_enter func178,ntmps178;go_wp2;go_ret;exact⟨Bu H.o.symm,rfl⟩
  ·have H:=Hd (show D2 4 n=false from by rw [←Bool.not_eq_true];intro b;rcases Dp.1 b with h''|h'' <;>first|omega|exact h (by simpa using h''.1));have c:decide (-2147483648≤n)=false:=decide_eq_false h;clear h hy;go_enter func178,ntmps178;go_wp2;go_ret;exact⟨Bu H.o.symm,rfl⟩
 ·have H:=Hd (show D2 8 n=true from Dp.2 (.inl rfl));clear hy;go_enter func178,ntmps178;go_wp2;go_ret;exact⟨Bu H.o.symm,rfl⟩
theorem Gc:(Ad.info? 5).map (fun i=>(i.zero,i.size,i.bytes))=some (some (.int .u8 0),1,1):=by kernel_rfl
def Te(w:World)(m:List UInt8)(e:Ending)(w':World):Prop:=
 ∃A n c,e= .returned (.slice A n c)∧F4 w' w.heap.size A n c m∧Below w.heap.size w w'
theorem R8{w1:World}{n:Nat}{l:List UInt8}(h:F4 w' w.heap.size A n c l)(hl:l=m)(h1:Below w.heap.size w w1){S:Nat→Prop}(hg:Fr S w1 w')(hS:∀k,k<w.heap.size→¬S k):Te w m (.returned (.slice A n c)) w':=by
 subst hl;exact⟨A,n,c,rfl,h,h1.trans (hg.belowB hS h1.size)⟩
theorem Mw(A:Option Addr)(n c:Nat)(l:List UInt8)(w:World)(h:Ca w A n l)(hl:n≤1099511627776):
  Calls Ad 12 #[.slice A n c] w (Te w l):=by
 have e:=Hd h;clear h;go_enter func12,ntmps12;go_wp2_with (at_builtin;refine Dh _ rfl (.tmp 4) (.tmp 5) _ rfl 5 _ 1 1 underlying22 Gc rfl (by omega) Cn Gs _ _ _ _ _ rfl (Own.nil w w.heap.size) _ _ _ _ rfl e.o (by omega) (Ae _) ?_;intro f i m a b d);go_ret;exact R8 (by simpa using a) rfl (Af _ _) b (by rintro k j ⟨g,h,_⟩;cases h)
theorem T6(A:Option Addr)(n c:Nat)(l:List UInt8)(w:World)(h:Ca w A n l)(hl:n≤1099511627776):
  Calls Ad 52 #[.slice A n c] w (Te w l):=by
 have f:=fun(w:World) (A:Option Addr) (n c:Nat)=>Lib.run_eql_slice_nil (P:=Ad) w 22 5 A n c 0 0 underlying22
 rcases A with _|a
 ·obtain⟨rfl,rfl⟩:=h.none_ Cn (by omega);clear h hl;go_enter func52,ntmps52;go_wp2_with fail;go_ret;exact⟨none,0,0,rfl,Own.nil _ _,Af _ _⟩
 ·have g:Ca (w.alloc (.cells #[] 5)) (some a) n l:=h.alloc _;have m:F4 (w.alloc (.cells #[] 5)) w.heap.size (some ⟨w.heap.size,0,none⟩) 0 0 []:=⟨rfl,World.ownsRow_lit w #[] 0 (Ae _) (Nat.zero_le _) rfl⟩;have i:=Hd g;clear h g;go_enter func52,ntmps52;go_wp2_with (at_builtin;refine Dh _ rfl (.tmp 5) (.tmp 6) _ rfl 5 _ 1 1 underlying22 Gc rfl (by omega) Cn Gs _ _ _ _ _ rfl m _ _ _ _ rfl i.o (by omega) (by simp) ?_;intro p r t b d e);go_ret;exact R8 (by simpa using b) rfl ((Af _ _).alloc (Ae _) _) d (by rintro k s ⟨q,h,j⟩;injection h with h;subst h;simp at j;omega)
theorem Iu{n:Nat}{l:List UInt8}(h:Ca w A n l):(convert 22 9 (.slice A n c)).run Ad w= .ok (.string ⟨l.toArray⟩) w:=by
 rcases Nat.eq_zero_or_pos n with h0|h0
 ·subst h0;obtain rfl:l=[]:=List.eq_nil_of_length_eq_zero h.1;rw [run_convert_bytes_string w 22 9 5 A 0 c underlying22 underlying5 underlying9];cases A with
  |none=>simp [Conv.bytesToString];rfl
  |some a=>
   have:=run_bytesToString (P:=Ad) w a 0 c [] (by simp [loadCells,loadCellsFrom]);rw [this];rfl
 ·obtain⟨b,d,rfl,_⟩:=h.some_ Cn (by omega) h0;have:=run_convert_bytes_arg (P:=Ad) w 22 5 underlying22 underlying5 b d n c (l.map fun x=>(x.toNat:Int)) (by simp [h.1]) (fun i hi=>by
   obtain⟨o,f,e,k,j⟩:=Gd h hi;injection e with e;injection e with e1 e2;subst e1 e2
   rw [j];simp [List.getD,List.getElem?_eq_getElem k]) 9 underlying9
  have g:∀m:List UInt8,(m.map fun x:UInt8=>(x.toNat:Int)).map (fun n=>Ar n.toNat)=m:=by
   intro m
   induction m with
   |nil=>rfl
   |cons x m ih=>rw [List.map_cons,List.map_cons,ih,Int.toNat_natCast,UInt8.ofNat_toNat]
  have e:strOfNums (l.map fun x:UInt8=>(x.toNat:Int))=⟨l.toArray⟩:=by
   unfold strOfNums;rw [g]
  rw [this,e]
def Wm(l m:List UInt8):Bool:=decide (l=m)
theorem tS(l:List UInt8):Wm l l=true:=decide_eq_true rfl
theorem tT(A B:Option Addr)(n n' c d:Nat)(l m:List UInt8)(w:World)(ha:Ca w A n l)(hb:Ca w B n' m):
  Calls Ad 31 #[.slice A n c,.slice B n' d] w (Adi (.bool (Wm l m)) w):=by
 have h1:=Iu (c:=c) ha;have h2:=Iu (c:=d) hb;have H:=Hd (show(l==m)=Wm l m by unfold Wm;rw [Bool.eq_iff_iff];simp);clear ha hb;go_enter func31,ntmps31;go_wp2;go_ret;exact⟨Bu H.o,rfl⟩
theorem Ys(w:World)(v:Int)(x:UInt8)(h:v=(x.toNat:Int)):Ca (w.alloc (.cells #[.int .u8 v] 5)) (some ⟨w.heap.size,0,none⟩) 1 [x]:=by
 subst h;refine⟨rfl,fun j u hj=>?_⟩;have e:j=0:=by
  have:=(List.getElem?_eq_some_iff.1 hj).1;simp [bc] at this;omega
 subst e;have hu:u= .int .u8 (x.toNat:Int):=by simpa [bc] using hj.symm
 subst hu;exact⟨_,_,rfl,(Bh.new w 5 _).cell 0⟩
theorem jQ{B n:Nat}{l:List UInt8}(h:F4 w B (some ⟨g,0,none⟩) n c l):∃cur,Bh w g 5 cur∧n≤cur.size∧
  (∀(w':World) (cur':Array Value) (off k:Nat) (m:List UInt8),Bh w' g 5 cur'→L9 cur off (m.flatMap bc) k cur'→m.length=k→off+k≤n→F4 w' B (some ⟨g,0,none⟩) n c (l.take off++m++l.drop (off+k))):=by
 obtain⟨s,h1,h2⟩:=h;rcases h2 with⟨hv,_⟩|⟨r,i,cur,hv,o,p,e,d,b,a⟩
 ·cases hv
 ·injection hv with e1 _ e3
  injection e1 with e1
  injection e1 with e1
  subst e1 e3;simp only [Nat.mul_one] at b a h1;refine⟨cur,p,by omega,?_⟩;intro w' cur' off k m j f t q;refine⟨by simp;omega,?_,.inr ⟨g,c,cur',rfl,o,j,e,d,by rw [f.1,Nat.mul_one];exact b,?_⟩⟩
  ·rw [Cd Cn];simp;omega
  ·rw [Nat.mul_one,f.take (by rw [Cd Cn];omega) q (by omega),a,List.flatMap_append,List.flatMap_append,M9 Cn,Pm Cn,Nat.mul_one,Nat.mul_one]
def Gw(x:Int)(b:Bool):Int:=if Bt x=true then(if b=true then 0 else 10) else 2
def Gk(l:List UInt8)(x:Int)(u:Nat)(b:Bool):List UInt8:=if Bt x=true∧b=true then l++Bn x.toNat u else []
def Ye(w:World)(m:List UInt8)(er:Int)(e:Ending)(w':World):Prop:=
 ∃A n c,e= .returned (.tuple #[.slice A n c,Aa Ab er])∧F4 w' w.heap.size A n c m∧Below w.heap.size w w'
theorem T1(A:Option Addr)(n c u F:Nat)(x:Int)(l:List UInt8)(caps:Array Value)(b:Bool)(w:World)(h:Ca w A n l)(hc:n≤c)(hn:n≤1099511627776)(hu:(u:Int)<18446744073709551616)
  (hF:∀(args:Array Value) (w:World),(callFunc F args).run Ad w= .ok (.enter F args) w)
  (hfit:Bt x=true→Calls Ad F caps w (Adi (.bool b) w)):
  Calls Ad 25 #[.slice A n c,Aa Ab x,Aa Ac u,.func (.func F) #[] caps] w (Ye w (Gk l x u b) (Gw x b)):=by
 have I:=Hd h;have X:=Hd hu;have i:=Hd hfit;clear h hu hfit;cases hx:Bt x with
 |false=>
  have v:=Hd (show Gw x b=2 by simp [Gw,hx]);have z:=Hd (show Gk l x u b=[] by simp [Gk,hx]);have m:=Hd hx;clear hx;go_enter func25,ntmps25;go_wp2_with (go_at_call 58;refine(Lm x _).mono ?_;rw [m.o];rintro e J ⟨rfl,rfl⟩);go_ret2;rw [v.o,z.o];exact⟨none,0,0,rfl,Own.nil _ _,Af _ _⟩
 |true=>
  cases b with
  |false=>
   have v:=Hd (show Gw x false=10 by simp [Gw,hx]);have z:=Hd (show Gk l x u false=[] by simp [Gk]);have m:=Hd hx;clear hx;go_enter func25,ntmps25;go_wp2_with (go_at_call 58;refine(Lm x _).mono ?_;rw [m.o];rintro e J ⟨rfl,rfl⟩);refine(i.o m.o).mono ?_;rintro e J ⟨rfl,rfl⟩;clear hF;go_wp2;go_ret2;rw [v.o,z.o];exact⟨none,0,0,rfl,Own.nil _ _,Af _ _⟩
  |true=>
   have R:(1:Int)≤x∧(x:Int)≤8:=by have:=Bz.1 hx;omega
   obtain⟨y,rfl⟩:∃y:Nat,x=y:=⟨x.toNat,by omega⟩;have ab:1≤y:=by omega
   have S:y≤8:=by omega
   have v:=Hd (show Gw y true=0 by simp [Gw,hx]);have z:=Hd (show Gk l y u true=l++Bn y u by simp [Gk,hx]);have m:=Hd hx;clear hx R;go_enter func25,ntmps25;go_wp2_with (go_at_call 58;refine(Lm y _).mono ?_;rw [m.o];rintro e J ⟨rfl,rfl⟩);refine(i.o m.o).mono ?_;rintro e J ⟨rfl,rfl⟩;clear hF;go_wp2_with (first
    |(go_at_call 52;refine(T6 A n c l _ I.o hn).mono ?_;rintro e w1 ⟨A1,H,c1,rfl,p,B⟩;obtain rfl:H=n:=(by rw [←p.1,I.o.1]);have r:=Hd p;have q:=Hd B;clear p B)
    |(at_builtin;refine aS _ rfl (.tmp 20) (.tmp 21) _ _ rfl 5 _ 1 1 _ _ underlying22 underlying3 Gc rfl (by omega) Cn Gs (0:UInt8) rfl _ _ _ _ _ rfl r.o y _ rfl rfl (by omega) (by omega) q.o.size ?_;intro W T w2 d j G;have f:=Hd d;have K:=Hd j;clear d j G;have P:=f.o.cap;rcases W with _|s))
   ·exact absurd (f.o.is.none_ Cn (by omega)).2 (by omega)
   ·obtain⟨O,Q,Z⟩:=f.o.addr s rfl;obtain⟨g,rfl⟩:∃g,s=⟨g,0,none⟩:=⟨_,O⟩;obtain⟨N,V,aa,a⟩:=jQ f.o;rw [I2,Nat.zero_add];refine(gK g H y (T-H) u N w2 V (by omega) S X.o).mono ?_;rintro e w3 ⟨rfl,t,D,E,C⟩;have M:=Hd (a w3 t H y _ D E (B9 _ _) (Ae _));have L:=Hd C;clear V a D E C;go_wp2;go_ret2;rw [v.o,z.o];refine⟨some ⟨g,0,none⟩,H+y,T,rfl,?_,?_⟩
    ·have U:=M.o;rw [List.take_left' I.o.1,List.drop_eq_nil_of_le (by simp [I.o.1]),List.append_nil] at U;exact U
    ·refine B8 (B8 q.o K.o ?_) L.o ?_
     ·rintro k ⟨Y,h,rfl⟩;exact(r.o.addr Y h).2.1
     ·rintro k rfl;exact Q
theorem rP(a b u:Nat)(x:Int)(w:World)(ha:Bh w a 3 #[Aa Ab x])(hb:Bh w b 26 #[Aa Ac u])(hx:Bt x=true)(hu:(u:Int)<18446744073709551616):
  Calls Ad 26 #[Adm a,Adm b] w (Adi (.bool (Cf x.toNat u)) w):=by
 obtain⟨y,rfl⟩:∃y:Nat,x=y:=⟨x.toNat,by have:=Bz.1 hx;omega⟩;have f:w.cell? ⟨a,0,none⟩=some (Aa Ab y):=ha.cell 0;have g:w.cell? ⟨b,0,none⟩=some (Aa Ac u):=hb.cell 0;have d:=Hd hx;have c:=Hd hu;clear ha hb hx hu;go_enter func26,ntmps26;go_wp2_with (go_at_call 27;refine(pS y u w d.o c.o).mono ?_;rintro e h ⟨rfl,rfl⟩);go_ret;exact⟨rfl,rfl⟩
theorem nD(a b:Nat)(n x:Int)(w:World)(ha:Bh w a 3 #[Aa Ab x])(hb:Bh w b 2 #[Aa Ab n])(hx:Bt x=true)(hn: -9223372036854775808≤n∧n≤9223372036854775807):
  Calls Ad 67 #[Adm a,Adm b] w (Adi (.bool (D2 x.toNat n)) w):=by
 obtain⟨y,rfl⟩:∃y:Nat,x=y:=⟨x.toNat,by have:=Bz.1 hx;omega⟩;have f:w.cell? ⟨a,0,none⟩=some (Aa Ab y):=ha.cell 0;have g:w.cell? ⟨b,0,none⟩=some (Aa Ab n):=hb.cell 0;have d:=Hd hx;have c:=Hd hn;clear ha hb hx hn;go_enter func67,ntmps67;go_wp2_with (go_at_call 68;refine(lW y n w d.o c.o.1 c.o.2).mono ?_;rintro e h ⟨rfl,rfl⟩);go_ret;exact⟨rfl,rfl⟩
theorem aD{er:Int}{e:Ending}(hB:Below w.heap.size w W)(h:Ye W m er e w'):Ye w m er e w':=by
 obtain⟨A,n,c,he,hO,hB'⟩:=h;exact⟨A,n,c,he,hO.rebase hB.size,B4 hB hB'⟩
theorem oB(m:Int):IntKind.u64.wrap m=(((m % 18446744073709551616).toNat:Nat):Int):=by
 show m % 18446744073709551616=_;omega
theorem Ct(w:World)(o:Obj)(t:TypeId)(cs:Array Value):Bh ((w.alloc o).alloc (.cells cs t)) (w.heap.size+1) t cs:=by
 have h:=Bh.new (w.alloc o) t cs;have e:(w.alloc o).heap.size=w.heap.size+1:=by simp
 rw [e] at h;exact h
theorem Ii(A:Option Addr)(n c u:Nat)(x:Int)(l:List UInt8)(w:World)(h:Ca w A n l)(hc:n≤c)(hn:n≤1099511627776)(hu:(u:Int)<18446744073709551616):
  Calls Ad 6 #[.slice A n c,Aa Ab x,Aa Ac u] w (Ye w (Gk l x u (Cf x.toNat u)) (Gw x (Cf x.toNat u))):=by
 have p:=Hd h;have f:=Hd hu;have q:=f;clear h hu;go_enter func6,ntmps6;go_wp2_with fail
 skip
 have b:=(Bh.new w 3 #[Aa Ab x]).alloc (.cells #[Aa Ac (u:Int)] 26);have d:=Ct w (.cells #[Aa Ab x] 3) 26 #[Aa Ac (u:Int)];have a:=fun hx=>rP w.heap.size (w.heap.size+1) u x _ b d hx f.o
 have s:=(p.o.alloc (.cells #[Aa Ab x] 3)).alloc (.cells #[Aa Ac (u:Int)] 26);refine(T1 A n c _ 26 x l _ _ _ s hc hn q.o Tryz.call26 a).mono ?_;intro e y t;obtain⟨j,v,r,rfl,i,g⟩:=t;have m:=Hd i;have k:=Hd g;clear i g;go_wp2;go_ret2;exact aD (((Af _ _).alloc (Ae _) _).alloc (by simp) _) ⟨j,v,r,rfl,m.o,k.o⟩
theorem rQ(A:Option Addr)(n c:Nat)(x m:Int)(l:List UInt8)(w:World)(h:Ca w A n l)(hc:n≤c)(hn:n≤1099511627776)(hm: -9223372036854775808≤m∧m≤9223372036854775807):
  Calls Ad 34 #[.slice A n c,Aa Ab x,Aa Ab m] w (Ye w (Gk l x (m % 18446744073709551616).toNat (D2 x.toNat m)) (Gw x (D2 x.toNat m))):=by
 have p:=Hd h;have q:=Hd hm;have r:=Hd (show(((m % 18446744073709551616).toNat:Nat):Int)<18446744073709551616 by omega);clear h hm;go_enter func34,ntmps34;go_wp2_with fail;rw [oB m];have b:=(Bh.new w 3 #[Aa Ab x]).alloc (.cells #[Aa Ab m] 2);have d:=Ct w (.cells #[Aa Ab x] 3) 2 #[Aa Ab m];have a:=fun hx=>nD w.heap.size (w.heap.size+1) m x _ b d hx q.o
 have t:=(p.o.alloc (.cells #[Aa Ab x] 3)).alloc (.cells #[Aa Ab m] 2);refine(T1 A n c _ 67 x l _ _ _ t hc hn r.o Tryz.call67 a).mono ?_;intro e y u;obtain⟨i,v,s,rfl,g,f⟩:=u;have k:=Hd g;have j:=Hd f;clear g f;go_wp2;go_ret2;exact aD (((Af _ _).alloc (Ae _) _).alloc (by simp) _) ⟨i,v,s,rfl,k.o,j.o⟩
theorem wH{n:Int}(hn:0<n)(h:0≤i.tmod n):i.tmod n=i % n:=by
 have h1:=Int.tmod_lt_of_pos i hn;have h2:(i.tmod n) % n=i % n:=by rw [Int.tmod_def,Int.sub_emod,Int.mul_emod_right];simp
 rw [←h2,Int.emod_eq_of_lt h h1]
theorem fR{n:Int}(hn:0<n)(h:i.tmod n<0):i.tmod n+n=i % n∧0≤i.tmod n+n:=by
 have h1: -n<i.tmod n:=by
  have:=Int.lt_tmod_of_pos i hn;omega
 have h2:(i.tmod n+n) % n=i % n:=by rw [Int.add_emod_right,Int.tmod_def,Int.sub_emod,Int.mul_emod_right];simp
 exact⟨by rw [←h2,Int.emod_eq_of_lt (by omega) (by omega)],by omega⟩
theorem Qk(i n:Int)(w:World)(h0:0<n)(hn:n≤9223372036854775807):
  Calls Ad 18 #[Aa Ab i,Aa Ab n] w (Adi (Aa Ab (i % n)) w):=by
 by_cases h:0≤i.tmod n
 ·have H:=Hd (wH h0 h);go_enter func18,ntmps18;go_wp2;go_ret;exact⟨Er H.o,rfl⟩
 ·have a:i.tmod n<0:=by omega
  have H:=Hd (fR h0 a).1;have b:=(fR h0 a).2;clear h;go_enter func18,ntmps18;go_wp2;go_ret;exact⟨Er H.o,rfl⟩
def wd(n:Int):Nat:=2^(n % 4).toNat
theorem jK(w:World)(vs:Array Value)(l:List UInt8)(n:Nat)(hn:l.length=n)(h:vs.toList=l.flatMap bc):Ca (w.alloc (.cells vs 5)) (some ⟨w.heap.size,0,none⟩) n l:=
 ⟨hn,fun j u hj=>⟨_,_,rfl,by rw [(Bh.new w 5 vs).cell,Nat.zero_add,←Array.getElem?_toList,h];exact hj⟩⟩
def Mb(F:FuncId):Value:= .func (.func F) #[] #[]
def shZ:List Value:=[Aa Ab 0,.nilFunc,.nilFunc,Aa Ab 0]
def Ue(t:Nat):List Value:=
 if Jg t=true then(if 0<Et t then [Aa Ab 0,Mb 309,Mb 310,Aa Ab 0] else [Aa Ab 1,Mb 311,Mb 310,Aa Ab 0]) else shZ
def Xy(t:Nat):List Value:=
 if t=10 then [Aa Ab 1,Mb 311,Mb 312,Aa Ab 1] else if t=9 then [Aa Ab 3,Mb 311,Mb 312,Aa Ab 1] else Ue t
def K9(k t:Nat):List Value:=if t<k then Ue t else shZ
theorem zP(t:Nat):(Ue t).length=4:=by unfold Ue;split <;>(try split) <;>rfl
theorem fL(k t:Nat):(K9 k t).length=4:=by unfold K9;split;exact zP t;rfl
def P2(k:Nat):Array Value:=((List.range 37).flatMap (K9 k)).toArray
def Ld:Array Value:=((List.range 37).flatMap Xy).toArray
def Vq:Array Value:=((List.range 37).flatMap fun _=>shZ).toArray
theorem Abl:(Ad.info? 286).map (fun i=>(i.zero,i.size))=some (some (Value.agg Vq),148):=by kernel_rfl
theorem J9(k:Nat):(P2 k).size=148:=by
 unfold P2;rw [List.size_toArray,Cd (fL k),List.length_range]
theorem Nb{k t i:Nat}(ht:t<37)(hi:i<4):(P2 k)[t*4+i]?=(K9 k t)[i]?:=by
 unfold P2;rw [List.getElem?_toArray,Ic (fL k) (List.range 37) t i (by simpa using ht) hi,List.getElem_range]
theorem vS{k:Nat}(h:Jg k=false):P2 (k+1)=P2 k:=by
 unfold P2
 congr 1
 have e:K9 (k+1)=K9 k:=by
  funext t
  unfold K9;by_cases h1:t<k
  ·rw [if_pos h1,if_pos (by omega)]
  ·by_cases h2:t=k
   ·subst h2;rw [if_pos (by omega),if_neg h1];unfold Ue;rw [h];rfl
   ·rw [if_neg (by omega),if_neg h1]
 rw [e]
theorem kC{k:Nat}(hk:k<37){a b c d:Value}(h:Ue k=[a,b,c,d]):((((P2 k).setIfInBounds (k*4) a).setIfInBounds (k*4+1) b).setIfInBounds (k*4+2) c).setIfInBounds (k*4+3) d=P2 (k+1):=by
 apply Array.ext_getElem?;intro j;have m:=J9 k;by_cases n:j<148
 ·have l:j/4<37:=by omega
  have e:j/4*4+j % 4=j:=by omega
  have h1:=Nb (k:=k) l (show j % 4<4 by omega);have h2:=Nb (k:=k+1) l (show j % 4<4 by omega);rw [e] at h1 h2;rw [h2];simp only [Array.getElem?_setIfInBounds,Array.size_setIfInBounds,m];by_cases g:j/4=k
  ·have i:K9 (k+1) (j/4)=[a,b,c,d]:=by rw [g];unfold K9;rw [if_pos (by omega),h]
   rw [i];have f:j % 4=0∨j % 4=1∨j % 4=2∨j % 4=3:=by omega
   rcases f with f|f|f|f <;>rw [f]
   ·rw [if_neg (by omega),if_neg (by omega),if_neg (by omega),if_pos (by omega),if_pos (by omega)];rfl
   ·rw [if_neg (by omega),if_neg (by omega),if_pos (by omega),if_pos (by omega)];rfl
   ·rw [if_neg (by omega),if_pos (by omega),if_pos (by omega)];rfl
   ·rw [if_pos (by omega),if_pos (by omega)];rfl
  ·rw [if_neg (by omega),if_neg (by omega),if_neg (by omega),if_neg (by omega),h1]
   congr 1
   unfold K9;by_cases h1:j/4<k
   ·rw [if_pos h1,if_pos (by omega)]
   ·rw [if_neg h1,if_neg (by omega)]
 ·rw [Array.getElem?_eq_none (by simp [m];omega),Array.getElem?_eq_none (by rw [J9];omega)]
theorem sW(hgd:o.guard=none)(p:Operand)(ty:TypeId)(ho:o.op= .load ty p)(g:Nat)(hp:a.eval p= Adm g)(v:Value)
  (h:(loadVar ty ⟨g,0,none⟩).run Ad w= .ok v w) (hk:wpList Ad ops Q rest (a.put o.dst v) w):wpList Ad ops Q (o::rest) a w:=by
 refine wpList_plain hgd fun K hK=>?_
 unfold Oper.wp;simp only [execOp,ho,hp,Instr.loadAt,Instr.sureAddr,Sem.run_bind,Sem.run_pure,Result.andThen_ok,h];exact hK _ _ hk
theorem nZ(hgd:o.guard=none)(p x:Operand)(ty:TypeId)(ho:o.op= .store ty p x)(g:Nat)(hp:a.eval p= Adm g)(v:Value)(hx:a.eval x=v)
  (h:(storeVar ty ⟨g,0,none⟩ v).run Ad w= .ok () w') (hk:wpList Ad ops Q rest (a.put o.dst undef) w'):wpList Ad ops Q (o::rest) a w:=by
 refine wpList_plain hgd fun K hK=>?_
 unfold Oper.wp;simp only [execOp,ho,hp,hx,Instr.storeAt,Instr.sureAddr,Sem.run_bind,Sem.run_pure,Result.andThen_ok,h];exact hK _ _ hk
theorem Hz{i:Nat}{t:TypeId}{cs:Array Value}(h:Bh W g t cs)(hi:i<cs.size)(h1:v.oneCell'=true):(store ⟨g,i,none⟩ v).run Ad W= .ok () (W.setCell ⟨g,i,none⟩ v):=by
 rw [run_store Ad W _ v _ h1,h.cell i,Array.getElem?_eq_getElem hi];simp [h.frozen i]
theorem L0(w:World):Calls Ad 252 #[] w (Adh (.agg Ld) w):=by
 have hz:=(zero_of_info Abl).1;have S:Vq.size=148:=by kernel_rfl
 go_enter func252,ntmps252;go_wp2_with fail;go_loopw [2,3,4,5,6] (fun _ _ _ _ i wr=>∃k:Nat,k≤37∧i= Aa Ab k∧Bh wr (w.heap.size+1) 286 (P2 k)∧Bh wr w.heap.size 286 Vq∧Below w.heap.size w wr) (fun _ _ _ _ i _=>37-(intOf i).toNat)
 case atStart=>exact⟨0,by omega,rfl,by rw [show P2 0=Vq by kernel_rfl];exact Bh.new_ (by simp) _ _,(Bh.new w _ _).alloc _,((Af _ _).alloc (Ae _) _).alloc (by simp) _⟩
 case round=>
  obtain⟨k,hk,rfl,Y,Z,X⟩:=hrel;have HK:=Hd Y;have n:=Hd Z;have g:=Hd X;clear Y Z X hz S;by_cases a:k<37
  ·have ad:(0:Int)≤k:=by omega
   have aa:(k:Int)<37:=by omega
   go_wp2_with fail;go_at_call 272;refine(Sc k _).mono ?_;rintro e B ⟨rfl,A⟩;replace HK:=Hd (HK.o.pure A);replace n:=Hd (n.o.pure A);replace g:=Hd (Ba g.o A);clear A;cases hv:Jg k with
   |false=>
    have z:=Hd hv;clear hv;go_wp2;go_roundw
    case rel=>exact⟨k+1,by omega,by go_num,by rw [vS z.o];exact HK.o,n.o,g.o⟩
    case measure=>simp [intOf];omega
   |true=>
    have c0:B.cell? ⟨w.heap.size+1,k*4,none⟩=some (Aa Ab 0):=(HK.o.cell (k*4)).trans (by rw [show k*4=k*4+0 by omega,Nb a (by omega)];unfold K9;rw [if_neg (by omega)];rfl);have c1:B.cell? ⟨w.heap.size+1,k*4+1,none⟩=some .nilFunc:=(HK.o.cell (k*4+1)).trans (by rw [Nb a (by omega)];unfold K9;rw [if_neg (by omega)];rfl);have c2:B.cell? ⟨w.heap.size+1,k*4+2,none⟩=some .nilFunc:=(HK.o.cell (k*4+2)).trans (by rw [Nb a (by omega)];unfold K9;rw [if_neg (by omega)];rfl);have c3:B.cell? ⟨w.heap.size+1,k*4+3,none⟩=some (Aa Ab 0):=(HK.o.cell (k*4+3)).trans (by rw [Nb a (by omega)];unfold K9;rw [if_neg (by omega)];rfl);have f0:=HK.o.frozen (k*4);have f1:=HK.o.frozen (k*4+1);have f2:=HK.o.frozen (k*4+2);have f3:=HK.o.frozen (k*4+3);by_cases hm:0<Et k
    ·have hvr:Ue k=[Aa Ab 0,.func (.func 309) #[] #[],.func (.func 310) #[] #[],Aa Ab 0]:=by unfold Ue;rw [if_pos hv,if_pos hm];rfl
     have z:=Hd hvr;have P:=Hz (i:=k*4+1) (v:= .func (.func 309) #[] #[]) (HK.o.set_ (k*4) (Aa Ab 0)) (by simp [J9];omega) rfl;have Q:=Hz (i:=k*4+2) (v:= .func (.func 310) #[] #[]) ((HK.o.set_ (k*4) (Aa Ab 0)).set_ (k*4+1) (.func (.func 309) #[] #[])) (by simp [J9];omega) rfl;clear hv hvr;go_wp2;go_roundw
     case rel=>exact⟨k+1,by omega,by go_num,by rw [←kC a z.o];exact(((HK.o.set_ _ _).set_ _ _).set_ _ _).set_ _ _,(((n.o.far (by simp) _).far (by simp) _).far (by simp) _).far (by simp) _,(((g.o.setCell (Ai _) _).setCell (Ai _) _).setCell (Ai _) _).setCell (Ai _) _⟩
     case measure=>simp [intOf];omega
    ·have hvr:Ue k=[Aa Ab 1,.func (.func 311) #[] #[],.func (.func 310) #[] #[],Aa Ab 0]:=by unfold Ue;rw [if_pos hv,if_neg hm];rfl
     have z:=Hd hvr;have P:=Hz (i:=k*4+1) (v:= .func (.func 311) #[] #[]) (HK.o.set_ (k*4) (Aa Ab 1)) (by simp [J9];omega) rfl;have Q:=Hz (i:=k*4+2) (v:= .func (.func 310) #[] #[]) ((HK.o.set_ (k*4) (Aa Ab 1)).set_ (k*4+1) (.func (.func 311) #[] #[])) (by simp [J9];omega) rfl;clear hv hvr;go_wp2;go_roundw
     case rel=>exact⟨k+1,by omega,by go_num,by rw [←kC a z.o];exact(((HK.o.set_ _ _).set_ _ _).set_ _ _).set_ _ _,(((n.o.far (by simp) _).far (by simp) _).far (by simp) _).far (by simp) _,(((g.o.setCell (Ai _) _).setCell (Ai _) _).setCell (Ai _) _).setCell (Ai _) _⟩
     case measure=>simp [intOf];omega
  ·obtain rfl:k=37:=by omega
   have b:(P2 37).size=148:=J9 37;have E:wr.cell? ⟨w.heap.size+1,40,none⟩=some (Aa Ab 0):=(HK.o.cell 40).trans (by kernel_rfl);have F:wr.cell? ⟨w.heap.size+1,43,none⟩=some (Aa Ab 0):=(HK.o.cell 43).trans (by kernel_rfl);have C:wr.cell? ⟨w.heap.size+1,36,none⟩=some (Aa Ab 0):=(HK.o.cell 36).trans (by kernel_rfl);have D:wr.cell? ⟨w.heap.size+1,39,none⟩=some (Aa Ab 0):=(HK.o.cell 39).trans (by kernel_rfl);have K:=HK.o.frozen 40;have L:=HK.o.frozen 41;have M:=HK.o.frozen 42;have N:=HK.o.frozen 43;have G:=HK.o.frozen 36;have H:=HK.o.frozen 37;have I:=HK.o.frozen 38;have J:=HK.o.frozen 39;have q:=HK;have h:=Hd (q.o.set_ 40 (Aa Ab 1));have V:=Hz (i:=41) (v:=(.func (.func 311) #[] #[])) h.o (by simp [b]) rfl;have j:=Hd (h.o.set_ 41 (.func (.func 311) #[] #[]));have W:=Hz (i:=42) (v:=(.func (.func 312) #[] #[])) j.o (by simp [b]) rfl;have r:=Hd (j.o.set_ 42 (.func (.func 312) #[] #[]));have s:=Hd (r.o.set_ 43 (Aa Ab 1));have l:=Hd (s.o.set_ 36 (Aa Ab 3));have T:=Hz (i:=37) (v:=(.func (.func 311) #[] #[])) l.o (by simp [b]) rfl;have m:=Hd (l.o.set_ 37 (.func (.func 311) #[] #[]));have U:=Hz (i:=38) (v:=(.func (.func 312) #[] #[])) m.o (by simp [b]) rfl;have t:=Hd (m.o.set_ 38 (.func (.func 312) #[] #[]));have u:=Hd (t.o.set_ 39 (Aa Ab 1));have d:Bh ((((((((wr.setCell ⟨w.heap.size+1,40,none⟩ (Aa Ab 1)).setCell ⟨w.heap.size+1,41,none⟩ (.func (.func 311) #[] #[])).setCell ⟨w.heap.size+1,42,none⟩ (.func (.func 312) #[] #[])).setCell ⟨w.heap.size+1,43,none⟩ (Aa Ab 1)).setCell ⟨w.heap.size+1,36,none⟩ (Aa Ab 3)).setCell ⟨w.heap.size+1,37,none⟩ (.func (.func 311) #[] #[])).setCell ⟨w.heap.size+1,38,none⟩ (.func (.func 312) #[] #[])).setCell ⟨w.heap.size+1,39,none⟩ (Aa Ab 1)) (w.heap.size+1) 286 Ld:=by
    have:=u.o;rw [show((((((((P2 37).setIfInBounds 40 (Aa Ab 1)).setIfInBounds 41 (.func (.func 311) #[] #[])).setIfInBounds 42 (.func (.func 312) #[] #[])).setIfInBounds 43 (Aa Ab 1)).setIfInBounds 36 (Aa Ab 3)).setIfInBounds 37 (.func (.func 311) #[] #[])).setIfInBounds 38 (.func (.func 312) #[] #[])).setIfInBounds 39 (Aa Ab 1)=Ld by kernel_rfl] at this;exact this
   have c:=Hd d;clear q h j r s l m t u d b;have p:Hid (Bh ((((((((wr.setCell ⟨w.heap.size+1,40,none⟩ (Aa Ab 1)).setCell ⟨w.heap.size+1,41,none⟩ (.func (.func 311) #[] #[])).setCell ⟨w.heap.size+1,42,none⟩ (.func (.func 312) #[] #[])).setCell ⟨w.heap.size+1,43,none⟩ (Aa Ab 1)).setCell ⟨w.heap.size+1,36,none⟩ (Aa Ab 3)).setCell ⟨w.heap.size+1,37,none⟩ (.func (.func 311) #[] #[])).setCell ⟨w.heap.size+1,38,none⟩ (.func (.func 312) #[] #[])).setCell ⟨w.heap.size+1,39,none⟩ (Aa Ab 1)) w.heap.size 286 Vq):=Hd ((((((((n.o.far (by simp) _).far (by simp) _).far (by simp) _).far (by simp) _).far (by simp) _).far (by simp) _).far (by simp) _).far (by simp) _);have x:Hid (Below w.heap.size w ((((((((wr.setCell ⟨w.heap.size+1,40,none⟩ (Aa Ab 1)).setCell ⟨w.heap.size+1,41,none⟩ (.func (.func 311) #[] #[])).setCell ⟨w.heap.size+1,42,none⟩ (.func (.func 312) #[] #[])).setCell ⟨w.heap.size+1,43,none⟩ (Aa Ab 1)).setCell ⟨w.heap.size+1,36,none⟩ (Aa Ab 3)).setCell ⟨w.heap.size+1,37,none⟩ (.func (.func 311) #[] #[])).setCell ⟨w.heap.size+1,38,none⟩ (.func (.func 312) #[] #[])).setCell ⟨w.heap.size+1,39,none⟩ (Aa Ab 1))):=Hd ((((((((g.o.setCell (Ai _) _).setCell (Ai _) _).setCell (Ai _) _).setCell (Ai _) _).setCell (Ai _) _).setCell (Ai _) _).setCell (Ai _) _).setCell (Ai _) _);clear n g HK;go_upto_region 13 with fail
   generalize ((((((((wr.setCell ⟨w.heap.size+1,40,none⟩ (Aa Ab 1)).setCell ⟨w.heap.size+1,41,none⟩ (.func (.func 311) #[] #[])).setCell ⟨w.heap.size+1,42,none⟩ (.func (.func 312) #[] #[])).setCell ⟨w.heap.size+1,43,none⟩ (Aa Ab 1)).setCell ⟨w.heap.size+1,36,none⟩ (Aa Ab 3)).setCell ⟨w.heap.size+1,37,none⟩ (.func (.func 311) #[] #[])).setCell ⟨w.heap.size+1,38,none⟩ (.func (.func 312) #[] #[])).setCell ⟨w.heap.size+1,39,none⟩ (Aa Ab 1))=wf at c p x⊢;clear E F C D K L M N G H I J V W T U;have O:(loadVar 286 ⟨w.heap.size+1,0,none⟩).run Ad wf= .ok (.agg Ld) wf:=run_loadVar_row wf _ _ _ Ld (0,0) _ c.o underlying286 rfl (by kernel_rfl);have R:(storeVar 286 ⟨w.heap.size,0,none⟩ (.agg Ld)).run Ad wf= .ok () (wf.setRow w.heap.size Ld):=run_storeVar_row wf _ _ _ Vq Ld p.o (by kernel_rfl) (by kernel_rfl) (by kernel_rfl);have f:(wf.setRow w.heap.size Ld).heap[w.heap.size]?=some (.cells Ld 286 (0,0)):=setRow_heap wf _ Vq _ _ _ p.o;have y:=Hd f;clear f;go_wp2_with (first
    |(refine sW rfl (.tmp 1) 286 rfl _ rfl _ O ?_)
    |(refine nZ rfl (.tmp 0) (.tmp 32) 286 rfl _ rfl _ rfl R ?_))
   refine bodyPost_ret (v:= .agg Ld) ?_ rfl ⟨rfl,x.o.trans ⟨rfl,rfl,rfl,by simp [World.setRow],fun i hi=>setRow_other wf w.heap.size i _ (by omega)⟩⟩;refine results_cell_row (fn:=Tryz.f252) rfl _ _ w.heap.size 286 Ld (0,0) _ ?_ y.o underlying286 rfl (by kernel_rfl);rfl
end
section
open Go.Acc
inductive Tr where
 |mk (k n:Int) (u:Nat) (s:List UInt8) (ks:List (List UInt8)) (l:List Tr)
namespace Tr
def k:Tr→Int| .mk k _ _ _ _ _=>k
def n:Tr→Int| .mk _ n _ _ _ _=>n
def u:Tr→Nat| .mk _ _ u _ _ _=>u
def s:Tr→List UInt8| .mk _ _ _ s _ _=>s
def ks:Tr→List (List UInt8)| .mk _ _ _ _ ks _=>ks
def l:Tr→List Tr| .mk _ _ _ _ _ l=>l
end Tr
structure Bv where
 t:Nat
 w:Nat
 n:Nat
structure Bd where
 b:List UInt8
 s:List Bv
 keys:List (List UInt8×Nat)
 texts:List (List UInt8×Nat)
 lists:List (List UInt8×Nat)
 names:List (Nat×List UInt8)
 vals:List Bv
def bWidth(u:Nat):Nat:=if u<256 then 1 else if u<65536 then 2 else if u<4294967296 then 4 else 8
def bWidthI(n:Int):Nat:=if -128≤n∧n<128 then 1 else if -32768≤n∧n<32768 then 2 else if -2147483648≤n∧n<2147483648 then 4 else 8
def bits(n:Int):Nat:=(n % 18446744073709551616).toNat
def Mq(w n:Nat):Nat:=(w-n % w) % w
def Bq(w:Nat)(l:List UInt8):List UInt8:=l++Ak (Mq w l.length) 0
def inl(t:Nat):Bool:=Bs t
def upN(n w:Nat):Nat:=(n+w-1)/w*w
def D3(v:Bv)(a i w:Nat):Bool:=if inl v.t=true then decide (v.w≤w) else decide (v.n≤a∧bWidth (upN a w+i*w-v.n)≤w)
def leastW(f:Nat→Bool):Nat:=if f 1=true then 1 else if f 2=true then 2 else if f 4=true then 4 else if f 8=true then 8 else 0
def Ec(a w:Nat):Nat→List Bv→Bool
 |_,[]=>true
 |i,v::r=>D3 v a i w&&Ec a w (i+1) r
def dB(a w:Nat):Option Bv→Bool
 |none=>true
 |some k=>D3 k a 0 w
def Jt(a ahead:Nat)(k:Option Bv)(l:List Bv)(w:Nat):Bool:=(decide (ahead=0)||decide (bWidth l.length≤w))&&dB a w k&&Ec a w ahead l
def Dc(a ahead:Nat)(k:Option Bv)(l:List Bv):Nat:=leastW (Jt a ahead k l)
def En(w a:Nat)(v:Bv):Nat:=if inl v.t=true then v.n % 2^(8*w) else a-v.n
def C2(w:Nat):List UInt8→List Bv→List UInt8
 |l,[]=>l
 |l,v::r=>C2 w (l++Bn w (En w l.length v)) r
def bCode(w:Nat):Nat:=if w=1 then 0 else if w=2 then 1 else if w=4 then 2 else 3
def Fi(w:Nat)(v:Bv):UInt8:=Ar (4*v.t+bCode (if inl v.t=true then w else v.w))
def Cw(t:Nat)(len tags:Bool)(l:List Bv)(b:List UInt8):List UInt8×Bv:=
 let w:=Dc b.length (if len=true then 1 else 0) none l
 let c:=Bq w b++(if len=true then Bn w l.length else [])
 (C2 w c l++(if tags=true then l.map (Fi w) else []),⟨t,w,c.length⟩)
def Gj(k:Bv)(l:List Bv)(b:List UInt8):List UInt8×Bv:=
 let w:=Dc b.length 3 (some k) l
 let a:=Bq w b
 let c:=a++Bn w (a.length-k.n)++Bn w k.w++Bn w l.length
 (C2 w c l++l.map (Fi w),⟨9,w,c.length⟩)
def Cp(l:List (List UInt8×Nat))(k:List UInt8):Option Nat:=(l.find? fun x=>x.1==k).map (·.2)
def Fj(l:List (List UInt8×Nat))(k:List UInt8)(a:Nat):List (List UInt8×Nat):=if(Cp l k).isSome=true then l else l++ [(k,a)]
def Ko(f b:Nat):Bool:=decide (f/b % 2=1)
def Bd.push(b:Bd)(v:Bv):Bd:={ b with s:=b.s++ [v]}
def Bd.put(f:Nat)(s:List UInt8)(b:Bd):Bd×Bv:=
 match(if Ko f 1=true then Cp b.keys s else none) with
 |some a=>(b,⟨4,1,a⟩)
 |none=>({ b with b:=b.b++s++ [0],keys:=Fj b.keys s b.b.length,names:=(b.b.length,s)::b.names},⟨4,1,b.b.length⟩)
def Bd.key(f:Nat)(s:List UInt8)(b:Bd):Bd:=let x:=b.put f s;x.1.push x.2
def Bd.puts(f:Nat):List (List UInt8)→Bd→Bd×List Bv
 | [],b=>(b,[])
 |s::r,b=>let x:=b.put f s;let y:=Bd.puts f r x.1;(y.1,x.2::y.2)
def Bd.apart(t:Nat)(w n:Nat)(b:Bd):Bd:=
 let c:=Bq w b.b
 { b with b:=c++Bn w (n % 2^(8*w)),s:=b.s++ [⟨t,w,c.length⟩]}
def Bd.blob(s:List UInt8)(b:Bd):Bd:=
 let w:=bWidth s.length
 let c:=Bq w b.b++Bn w s.length
 { b with b:=c++s,s:=b.s++ [⟨25,w,c.length⟩]}
def Bd.str(f:Nat)(s:List UInt8)(b:Bd):Bd:=
 let w:=bWidth s.length
 match(if Ko f 2=true then Cp b.texts s else none) with
 |some a=>b.push ⟨5,w,a⟩
 |none=>
  let c:=Bq w b.b++Bn w s.length
  { b with b:=c++s++ [0],s:=b.s++ [⟨5,w,c.length⟩],texts:=Fj b.texts s c.length}
def Bd.vec(t:Nat)(len tags:Bool)(l:List Bv)(b:Bd):Bd:=
 let x:=Cw t len tags l b.b
 { b with b:=x.1,s:=b.s++ [x.2]}
def Bd.endVec(start:Nat)(b:Bd):Bd:=Bd.vec 10 true true (b.s.drop start) { b with s:=b.s.take start}
def K0:List Bv→List Bv
 | []=>[]
 | [v]=>[v]
 |v::_::r=>v::K0 r
def Q1(l:List Bv):List Bv:=K0 l.tail
def Bd.endMap(f:Nat)(keys:List (List UInt8))(start:Nat)(b:Bd):Bd:=
 let vs:=b.s.drop start
 let c:={ b with s:=b.s.take start}
 let list:=keys.flatMap fun s=>s++ [0]
 match(if Ko f 4=true then Cp c.lists list else none) with
 |some i=>let x:=Gj (c.vals.getD i ⟨0,0,0⟩) (Q1 vs) c.b;{ c with b:=x.1,s:=c.s++ [x.2]}
 |none=>
  let y:=Cw 14 true false (K0 vs) c.b
  let x:=Gj y.2 (Q1 vs) y.1
  { c with b:=x.1,s:=c.s++ [x.2],vals:=c.vals++ [y.2],lists:=Fj c.lists list c.vals.length}
def Ei(n:Int):Bv:=⟨1,bWidthI n,bits n⟩
def Ij(u:Nat):Bv:=⟨2,bWidth u,u⟩
def Ge(n:Int):Bv:=⟨26,1,if n=1 then 1 else 0⟩
def Bd.leaf(f:Nat)(k n:Int)(u:Nat)(s:List UInt8)(b:Bd):Bd:=
 if k=1 then b.push ⟨0,1,0⟩
 else if k=2 then b.push (Ge n)
 else if k=3 then b.push (Ei n)
 else if k=4 then b.push (Ij u)
 else if k=5 then b.key f s
 else if k=6 then b.str f s
 else if k=7 then b.blob s
 else if k=8 then b.apart 6 (bWidthI n) (bits n)
 else if k=9 then b.apart 7 (bWidth u) u
 else b
def Bd.flat(f:Nat)(k:Int)(l:List Tr)(b:Bd):Bd:=
 if k=11 then b.vec 11 true false (l.map fun t=>Ei t.n)
 else if k=12 then b.vec 12 true false (l.map fun t=>Ij t.u)
 else if k=14 then b.vec 36 true false (l.map fun t=>Ge t.n)
 else if k=13 then let x:=b.puts f (l.map Tr.s);x.1.vec 14 true false x.2
 else if k=15 then b.vec (10+3*l.length) false false (l.map fun t=>Ei t.n)
 else b.vec (11+3*l.length) false false (l.map fun t=>Ij t.u)
mutual
def Bd.calls(f:Nat):Tr→Bd→Bd
 | .mk k n u s ks l,b=>
  if k=10 then(Bd.callsL f l b).endVec b.s.length
  else if k=17 then(Bd.callsM f ks l b).endMap f ks b.s.length
  else if k≤9 then b.leaf f k n u s
  else b.flat f k l
def Bd.callsL(f:Nat):List Tr→Bd→Bd
 | [],b=>b
 |t::r,b=>Bd.callsL f r (Bd.calls f t b)
def Bd.callsM(f:Nat):List (List UInt8)→List Tr→Bd→Bd
 |_,[],b=>b
 |ks,t::r,b=>Bd.callsM f ks.tail r (Bd.calls f t (b.key f (ks.headD [])))
end
def Bd.new:Bd:=⟨[],[],[],[],[],[],[]⟩
def Bd.finish(b:Bd):List UInt8:=
 match b.s with
 | [v]=>
  let w:=leastW (D3 v b.b.length 0)
  let c:=Bq w b.b
  c++Bn w (En w c.length v)++ [Fi w v,Ar w]
 |_=>[]
def Ju(f:Nat)(t:Tr):List UInt8:=(Bd.calls f t Bd.new).finish
end
end Go.Proofs.YtejpbijeifjdeaaGreat
