/- Parts of the proof. -/
import Derived.Test.YtgbjodnegkbfoaaGreatQa01
import Derived.Lib.AppendZeros
import Derived.Deep.WholeRow
import Derived.Deep.DeepCutAuto
set_option maxHeartbeats 8000000
set_option maxRecDepth 100000
open Go.Value renaming int→Aa
open Go.IntKind renaming i64→Ab,u64→Ac
open Nat renaming le_refl→Ath,le_succ→Atk
open List renaming length_append→Atj,replicate→Atm,append_assoc→Ato
namespace Go.Acc
open Go.RowKit
section
variable {P:Program} (w:World)
theorem Ol(t tn ty e:TypeId)(i:TypeInfo)(z:Value)(k kn:IntKind)(ht:P.underlying t=some (.slice e))(htn:P.underlying tn=some (.int kn))(hi:P.info? e=some i)(hz:i.zero=some z)
  (g n cap:Nat) (cur:Array Value) (hg:w.heap[g]?=some (.cells cur e (0,0))) (m:Nat) (h0:0<m) (hs:0<i.size) (hzs:z.cells.size=i.size) (h63:(m:Int)≤9223372036854775807) (h48:m*i.bytes≤281474976710656)
  (hroom:n+m≤cap) (h1:∀u∈(Builtin.zeroCells z.cells m).toList,u.oneCell'=true) (hfit:n*i.size+m*i.size≤cur.size):
  (Builtin.append_ #[t,tn] ty #[.slice (some ⟨g,0,none⟩) n cap,.int k m]).run P w=
   .ok (.slice (some ⟨g,0,none⟩) (n+m) cap) (w.setRow g (cur.toList.take (n*i.size)++(Builtin.zeroCells z.cells m).toList++cur.toList.drop (n*i.size+(Builtin.zeroCells z.cells m).toList.length)).toArray):=by
 have hl:(Builtin.zeroCells z.cells m).toList.length=m*i.size:=by rw [Array.length_toList,size_zeroCells,hzs]
 have hst:=run_storeCells_at P g (n*i.size) e (Builtin.zeroCells z.cells m).toList 0 cur w hg (by rw [hl];omega) h1;simp only [Nat.add_zero] at hst;have hn:m≠0:=by omega
 have hw:IntKind.i64.wrap (m:Int)=m:=by rw [IntKind.wrap_i64];omega
 have h48i:¬(281474976710656<(m:Int)*(i.bytes:Int)):=by rw [←Int.natCast_mul];omega
 have hneg:¬((m:Int)<0):=by omega
 have hns:¬(m*i.size=0):=Nat.mul_ne_zero hn (by omega);simp [Builtin.append_,run_underlying ht,run_underlying htn,sizeOf,typeInfo,zeroValue,hi,hz,asInt,asIntOf,hw,hneg,hns,h48i,hroom,Addr.add_lit,hst]
theorem Oj(t tn ty e:TypeId)(i:TypeInfo)(z:Value)(k kn:IntKind)(ht:P.underlying t=some (.slice e))(htn:P.underlying tn=some (.int kn))(hi:P.info? e=some i)(hz:i.zero=some z)
  (b:Addr) (n cap:Nat) (olds:List Value) (hlo:olds.length=n*i.size) (holds:∀j v,olds[j]?=some v→w.cell? (b.add j)=some v)
  (m:Nat) (h0:0<m) (hs:0<i.size) (h63:((n+m:Nat):Int)≤9223372036854775807) (h48:m*i.bytes≤281474976710656) (hg:cap<n+m) (hfit:Builtin.nextslicecap (n+m) cap*i.bytes≤281474976710656):
  (Builtin.append_ #[t,tn] ty #[.slice (some b) n cap,.int k m]).run P w=
   .ok (.slice (some ⟨w.heap.size,0,none⟩) (n+m) (grownCap w (n+m) cap e))
    (w.drew.alloc (.cells (olds.toArray++(Builtin.zeroCells z.cells m)++Builtin.zeroCells z.cells (grownCap w (n+m) cap e-(n+m))) e)):=by
 have hn':¬(n+m≤cap):=by omega
 have hn:m≠0:=by omega
 have hw:IntKind.i64.wrap (m:Int)=m:=by rw [IntKind.wrap_i64];omega
 have h63':¬(9223372036854775807<((n:Int)+(m:Int))):=by omega
 have h48':¬(281474976710656<Builtin.nextslicecap (n+m) cap*i.bytes):=by omega
 have h48i:¬(281474976710656<(m:Int)*(i.bytes:Int)):=by rw [←Int.natCast_mul];omega
 have hneg:¬((m:Int)<0):=by omega
 have hns:¬(m*i.size=0):=Nat.mul_ne_zero hn (by omega);have hfo:=run_firstCells_some (P:=P) w.drew i.size n b n cap olds hlo (by simpa using holds);simp [Builtin.append_,run_underlying ht,run_underlying htn,sizeOf,typeInfo,zeroValue,hi,hz,asInt,asIntOf,hw,hn',hneg,hns,h63',h48',h48i,Question.forced,hfo,newRow,grownCap]
theorem Px(base:Nat)(t tn ty e:TypeId)(i:TypeInfo)(z:Value)(k kn:IntKind)(size bytes:Nat)(ht:P.underlying t=some (.slice e))(htn:P.underlying tn=some (.int kn))(hi:P.info? e=some i)(hz:i.zero=some z)
  (hsize:i.size=size) (hby:i.bytes=bytes) (hzs:z.cells.size=size) (hsz:0<size) (h1:∀m,∀u∈(Builtin.zeroCells z.cells m).toList,u.oneCell'=true)
  (v:Value) (n:Nat) (xs:List Value) (hown:w.ownsRow base e size v n xs) (m:Nat) (h0:0<m)
  (h63:n+m≤maxLen) (hbytes:(n+m)*bytes≤140737488355328) (hbase:base≤w.heap.size):
  ∃v' w',(Builtin.append_ #[t,tn] ty #[v,.int k m]).run P w= .ok v' w'∧w'.ownsRow base e size v' (n+m) (xs++(Builtin.zeroCells z.cells m).toList)∧w.grownBy w' v.ownBlock∧
   (v'.ownBlock=v.ownBlock∨v'.ownBlock=some w.heap.size):=by
 subst hsize;subst hby
 have hsmall:n+m≤9223372036854775807:=by simp only [maxLen] at h63;omega
 have hmb:m*i.bytes≤281474976710656:=by rw [Nat.add_mul] at hbytes;omega
 have hlz:(Builtin.zeroCells z.cells m).toList.length=m*i.size:=by rw [Array.length_toList,size_zeroCells,hzs]
 have hlen:(xs++(Builtin.zeroCells z.cells m).toList).length=(n+m)*i.size:=by rw [Atj,hown.1,hlz,Nat.add_mul]
 have grown:∀(old:Nat),old<n+m→∀(row:Option Nat),
   (w.drew.alloc (.cells (xs.toArray++Builtin.zeroCells z.cells m++Builtin.zeroCells z.cells (grownCap w (n+m) old e-(n+m))) e)).ownsRow base e i.size
    (.slice (some ⟨w.heap.size,0,none⟩) (n+m) (grownCap w (n+m) old e)) (n+m) (xs++(Builtin.zeroCells z.cells m).toList)∧
   w.grownBy (w.drew.alloc (.cells (xs.toArray++Builtin.zeroCells z.cells m++Builtin.zeroCells z.cells (grownCap w (n+m) old e-(n+m))) e)) row:=by
  intro old ho row;have hge:=grownCap_ge w (n+m) old e;have hcm:grownCap w (n+m) old e≤maxLen:=grownCap_le_maxLen w (n+m) old e h63;refine⟨⟨hlen,.inr ⟨w.heap.size,_,_,rfl,hbase,heap_alloc_new w.drew _,hge,hcm,?_,?_⟩⟩,⟨rfl,rfl,rfl,by simp,fun k hk _=>Below.heap_alloc w.drew _ k hk⟩⟩
  ·simp only [Array.size_append,List.size_toArray,size_zeroCells,hzs,hown.1,←Nat.add_mul]
   congr 1
   omega
  ·simp only [Array.toList_append,Ato];rw [←Ato,←hlen];exact List.take_left
 rcases hown.2 with⟨rfl,rfl⟩|⟨g,cap,cur,rfl,hbg,hg,hnc,hcm,hcs,htake⟩
 ·have hx:xs=[]:=List.eq_nil_of_length_eq_zero (by simpa using hown.1);subst hx;have hr:=Lib.run_append_nil_zeros (P:=P) w t tn ty e i z k kn ht htn hi hz m h0 hsz (by omega) hmb;have hgr:=grown 0 (by omega) (Value.ownBlock (.slice none 0 0));simp only [Nat.zero_add,List.nil_append,Array.empty_append] at hgr⊢;exact⟨_,_,hr,hgr.1,hgr.2,Or.inr rfl⟩
 ·by_cases hroom:n+m≤cap
  ·have hfit:n*i.size+m*i.size≤cur.size:=by rw [hcs,←Nat.add_mul];exact Nat.mul_le_mul_right _ hroom
   have hr:=Ol (P:=P) w t tn ty e i z k kn ht htn hi hz g n cap cur hg m h0 hsz hzs (by omega) hmb hroom (h1 m) hfit;refine⟨_,_,hr,⟨hlen,.inr ⟨g,cap,_,rfl,hbg,setRow_heap w g cur _ e _ hg,hroom,hcm,?_,?_⟩⟩,⟨rfl,rfl,rfl,by simp,fun k _ hk=>setRow_other w g k _ (fun e=>hk (by simp [Value.ownBlock,e]))⟩,Or.inl rfl⟩
   ·simp only [List.size_toArray,Atj,List.length_take,List.length_drop,Array.length_toList];rw [Array.length_toList] at hlz;omega
   ·rw [htake,←hlen];exact List.take_left
  ·have holds:∀j u,xs[j]?=some u→w.cell? ((⟨g,0,none⟩:Addr).add j)=some u:=hown.cells (g:=g) rfl;have hr:=Oj (P:=P) w t tn ty e i z k kn ht htn hi hz ⟨g,0,none⟩ n cap xs hown.1 holds m h0 hsz (by omega) hmb (by omega) (growslice_fits (by omega) hbytes);have hgr:=grown cap (by omega) (Value.ownBlock (.slice (some ⟨g,0,none⟩) n cap));exact⟨_,_,hr,hgr.1,hgr.2,Or.inr rfl⟩
end
section
variable {α:Type} {f:α→List Value} {P:Program} (w:World)
theorem Xa{zs:Array Value}{x:α}(hx:f x=zs.toList)(h0:0<zs.size)(m:Nat)(hf:∀x,(f x).length=zs.size):(Builtin.zeroCells zs m).toList=(Atm m x).flatMap f:=by
 apply List.ext_getElem?;intro j;by_cases hj:j<m*zs.size
 ·have hd:j/zs.size<m:=Nat.div_lt_of_lt_mul (by rw [Nat.mul_comm];exact hj);have hm:j % zs.size<zs.size:=Nat.mod_lt _ h0;have h1:=G7 hf (Atm m x) (j/zs.size) (j % zs.size) (by simpa using hd) hm;rw [show j/zs.size*zs.size+j % zs.size=j by rw [Nat.mul_comm];exact Nat.div_add_mod j zs.size,List.getElem_replicate,hx] at h1;rw [h1];simp [Builtin.zeroCells,hj,hm]
 ·rw [List.getElem?_eq_none (by simp [Builtin.zeroCells];omega),List.getElem?_eq_none (by rw [Bj hf];simp;omega)]
theorem Alm{ops:Array Oper}{rest:List Oper}{o:Oper}{a:Act}{Q:Exit→Act→World→Prop}(hgd:Region.wanted o (yielded ops a.tmps)=true)(s x:Operand)(t tn:TypeId)
  (ho:o.op= .call { callee:= .builtin .append,args:=#[s,x],argTypes:=#[t,tn]})
  (e:TypeId) (z:Value) (sz bytes:Nat) (k kn:IntKind) (ht:P.underlying t=some (.slice e)) (htn:P.underlying tn=some (.int kn)) (hi:(P.info? e).map (fun i=>(i.zero,i.size,i.bytes))=some (some z,sz,bytes))
  (hzs:z.cells.size=sz) (hsz:0<sz) (hf:∀x,(f x).length=sz) (h1:∀x,∀u∈f x,u.oneCell'=true) (x0:α) (hx0:f x0=z.cells.toList)
  (B:Nat) (A:Option Addr) (n c:Nat) (l:List α) (hs:a.eval s= .slice A n c) (hown:Own f sz e w B A n c l)
  (m:Nat) (M:Int) (hx:a.eval x= .int k M) (hM:M=m) (hm:0<m)
  (hbytes:(n+m)*(bytes+1)≤140737488355328) (hbase:B≤w.heap.size)
  (h:∀A' c' w',Own f sz e w' B A' (n+m) c' (l++Atm m x0)→Fr (fun k=>∃ad,A=some ad∧k=ad.block) w w'→
   (A'.map (·.block)=A.map (·.block)∨A'.map (·.block)=some w.heap.size)→wpList P ops Q rest (a.put o.dst (.slice A' (n+m) c')) w'):
  wpList P ops Q (o::rest) a w:=by
 subst hM;obtain⟨i,hi',hz,hsize,hby⟩:=info_parts hi;have e1:(n+m)*bytes≤140737488355328:=Nat.le_trans (Nat.mul_le_mul_left _ (Atk _)) hbytes;have e2:n+m≤maxLen:=by
  have:n+m≤(n+m)*(bytes+1):=Nat.le_mul_of_pos_right _ (Nat.succ_pos _);simp only [maxLen];omega
 have hzf:∀m,(Builtin.zeroCells z.cells m).toList=(Atm m x0).flatMap f:=fun m=>Xa hx0 (by rw [hzs];exact hsz) m (fun x=>by rw [hf,hzs])
 refine BigFrame.wpList_want hgd fun _ hK=>?_
 obtain⟨v',w',hrun,h2,h3,h4⟩:=Px (P:=P) w B t tn o.type e i z k kn sz bytes ht htn hi' hz hsize hby hzs hsz (fun m=>by rw [hzf];exact Q0 h1 _) _ n (l.flatMap f) hown.2 m hm e2 e1 hbase;unfold Oper.wp execOp;simp only [ho,resolve,invoke,builtin,Sem.run_bind,Sem.run_pure,Result.andThen_ok,List.map_toArray,List.map_cons,List.map_nil,hs,hx,hrun];rw [hzf] at h2;obtain⟨A',c',rfl,ho'⟩:=Own.mk hf hsz (l:=l++Atm m x0) h2 List.flatMap_append.symm;refine hK _ _ (h A' c' w' ho' ((Fr.of_grown h3).mono fun i _ hi=>?_) ?_)
 ·cases A with
  |none=>simp [Value.ownBlock] at hi
  |some ad=>simp [Value.ownBlock] at hi;exact⟨ad,rfl,hi⟩
 ·cases A <;>cases A' <;>simp only [Value.ownBlock,Option.map] at h4⊢ <;>exact h4
end
end Go.Acc
namespace Go.Proofs.YtgbjodnegkbfoaaGreat
open Go.RowKit Go.Acc
def D4(w u:Nat):Bool:=decide (w=8∨u<2^(8*w))
theorem C8{y:Nat}(h:Av (y:Int)=true):y=1∨y=2∨y=4∨y=8:=by have:=Ck.1 h;omega
def Ai(n u:Nat):List UInt8:=(List.range n).map fun i=>UInt8.ofNat (u/2^(8*i))
theorem Aj(n u:Nat):(Ai n u).length=n:=by simp [Ai]
theorem Adn(n u k:Nat)(hk:k<(Ai n u).length):(Ai n u)[k]=UInt8.ofNat (u/2^(8*k)):=by simp [Ai]
theorem Aa9(n u:Nat):Ai (n+1) u=Ai n u++ [UInt8.ofNat (u/2^(8*n))]:=by simp [Ai,List.range_succ]
theorem Hy(n u:Nat):D6 (Ai n u)=u % 2^(8*n):=by
 induction n with
 |zero=>simp [Ai,D6,Nat.mod_one]
 |succ n ih=>
  rw [Aa9,U0,ih,Aj,UInt8.toNat_ofNat',show 8*(n+1)=8*n+8 by omega,Nat.pow_add,Nat.mod_mul,Nat.mul_comm (2^(8*n))]
theorem Ai7(y u:Nat)(w:World)(hy:Av (y:Int)=true)(hu:(u:Int)<18446744073709551616):Calls Tryz.prog 49 #[Aa Ab y,Aa Ac u] w fun e w'=>e= .returned (.bool (D4 y u))∧w=w':=by
 have hu0:(0:Int)≤u:=by omega
 rcases C8 hy with rfl|rfl|rfl|rfl
 ·by_cases h:u<256
  ·have H:=Hd (show D4 1 u=true from decide_eq_true (.inr h));have e:((u:Int)/256==0)=true:=by rw [beq_iff_eq];omega
   clear h hy;go_enter Tryz.func49,Tryz.ntmps49;go_wp2;go_ret;exact⟨C0 H.o.symm,rfl⟩
  ·have H:=Hd (show D4 1 u=false from decide_eq_false (by rintro(h'|h') <;>first|exact h h'|omega));have e:((u:Int)/256==0)=false:=by rw [beq_eq_false_iff_ne];omega
   clear h hy;go_enter Tryz.func49,Tryz.ntmps49;go_wp2;go_ret;exact⟨C0 H.o.symm,rfl⟩
 ·by_cases h:u<65536
  ·have H:=Hd (show D4 2 u=true from decide_eq_true (.inr h));have e:((u:Int)/65536==0)=true:=by rw [beq_iff_eq];omega
   clear h hy;go_enter Tryz.func49,Tryz.ntmps49;go_wp2;go_ret;exact⟨C0 H.o.symm,rfl⟩
  ·have H:=Hd (show D4 2 u=false from decide_eq_false (by rintro(h'|h') <;>first|exact h h'|omega));have e:((u:Int)/65536==0)=false:=by rw [beq_eq_false_iff_ne];omega
   clear h hy;go_enter Tryz.func49,Tryz.ntmps49;go_wp2;go_ret;exact⟨C0 H.o.symm,rfl⟩
 ·by_cases h:u<4294967296
  ·have H:=Hd (show D4 4 u=true from decide_eq_true (.inr h));have e:((u:Int)/4294967296==0)=true:=by rw [beq_iff_eq];omega
   clear h hy;go_enter Tryz.func49,Tryz.ntmps49;go_wp2;go_ret;exact⟨C0 H.o.symm,rfl⟩
  ·have H:=Hd (show D4 4 u=false from decide_eq_false (by rintro(h'|h') <;>first|exact h h'|omega));have e:((u:Int)/4294967296==0)=false:=by rw [beq_eq_false_iff_ne];omega
   clear h hy;go_enter Tryz.func49,Tryz.ntmps49;go_wp2;go_ret;exact⟨C0 H.o.symm,rfl⟩
 ·go_enter Tryz.func49,Tryz.ntmps49;go_wp2;go_ret;exact⟨rfl,rfl⟩
def Lw(cur:Array Value)(off:Nat)(vs:List Value)(k:Nat)(cur':Array Value):Prop:=
 cur'.size=cur.size∧∀j,cur'[j]?=if off≤j∧j<off+k then vs[j-off]? else cur[j]?
theorem Lw.zero(cur:Array Value)(off:Nat)(vs:List Value):Lw cur off vs 0 cur:=⟨rfl,fun j=>by rw [if_neg (by omega)]⟩
theorem Lw.step{cur cur':Array Value}{off k:Nat}{vs:List Value}(h:Lw cur off vs k cur'){v:Value}(hv:vs[k]?=some v)(hk:off+k<cur.size):Lw cur off vs (k+1) (cur'.setIfInBounds (off+k) v):=by
 refine⟨by simpa using h.1,fun j=>?_⟩;rw [Array.getElem?_setIfInBounds,h.2];by_cases e:off+k=j
 ·subst e;rw [if_pos rfl,if_pos (by rw [h.1];exact hk),if_pos (by omega),Nat.add_sub_cancel_left,hv]
 ·rw [if_neg e];by_cases h1:off≤j∧j<off+k
  ·rw [if_pos h1,if_pos (by omega)]
  ·rw [if_neg h1,if_neg (by omega)]
theorem Lw.take{cur cur':Array Value}{off n m:Nat}{vs:List Value}(h:Lw cur off vs n cur')(hv:vs.length=n)(hm:off+n≤m)(hs:m≤cur.size):cur'.toList.take m=(cur.toList.take m).take off++vs++(cur.toList.take m).drop (off+n):=by
 apply List.ext_getElem?;intro j;rw [List.getElem?_take];have hj:=h.2 j;rw [←Array.getElem?_toList] at hj;split
 ·rename_i hjm;rw [hj];by_cases h1:j<off
  ·rw [if_neg (by omega),Ato,List.getElem?_append_left (by simp;omega),List.getElem?_take,if_pos h1,List.getElem?_take,if_pos hjm,Array.getElem?_toList]
  ·by_cases h2:j<off+n
   ·rw [if_pos (by omega),Ato,List.getElem?_append_right (by simp;omega),List.getElem?_append_left (by simp;omega)]
    congr 1
    simp;omega
   ·rw [if_neg (by omega),List.getElem?_append_right (by simp;omega),List.getElem?_drop,List.getElem?_take,←Array.getElem?_toList];have e:off+n+(j-((cur.toList.take m).take off++vs).length)=j:=by simp;omega
    rw [e,if_pos hjm]
 ·rename_i hjm;rw [List.getElem?_eq_none];simp;omega
theorem Agg(u k:Nat):(u:Int)/2^(8*k) % 256=((UInt8.ofNat (u/2^(8*k))).toNat:Int):=by
 have e:(u:Int)/2^(8*k)=((u/2^(8*k):Nat):Int):=by simp
 rw [e,UInt8.toNat_ofNat'];omega
theorem Adb(g off n c u:Nat)(cur:Array Value)(w:World)(hb:Af w g 5 cur)(ho:off+n≤cur.size)(hn:n≤8)(hu:(u:Int)<18446744073709551616):
  Calls Tryz.prog 96 #[.slice (some ⟨g,off,none⟩) n c,Aa Ac u] w fun e w'=>e= .returned (.tuple #[])∧∃cur',Af w' g 5 cur'∧Lw cur off ((Ai n u).flatMap bc) n cur'∧Fr (fun k=>k=g) w w':=by
 have HB:=Hd hb;have hu0:(0:Int)≤u:=by omega
 clear hb;go_enter Tryz.func96,Tryz.ntmps96;go_wp2;go_loopw [7] (fun i wr=>∃(k:Nat) (cur':Array Value),k≤n∧i= Aa Ab k∧Af wr g 5 cur'∧Lw cur off ((Ai n u).flatMap bc) k cur'∧Fr (fun k=>k=g) w wr) (fun i _=>n-(intOf i).toNat)
 case atStart=>exact⟨0,cur,by omega,rfl,HB.o,Lw.zero _ _ _,Fr.refl _ _⟩
 case round=>
  obtain⟨k,cur',hk,rfl,hB,hS,hf⟩:=hrel;by_cases hlt:k<n
  ·have hcell:∃v,wr.cell? ⟨g,off+k,none⟩=some v:=⟨_,(hB.cell (off+k)).trans (Array.getElem?_eq_getElem (by rw [hS.1];omega))⟩;obtain⟨v,hv⟩:=hcell;have f0:=hB.frozen (off+k);have e1:=Agg u k;have hb1:((Ai n u).flatMap bc)[k]?=some (.int .u8 ((UInt8.ofNat (u/2^(8*k))).toNat:Int)):=by
    have:=G7 Dk (Ai n u) k 0 (by rw [Aj];exact hlt) (by omega);rw [Nat.mul_one,Nat.add_zero,Adn] at this;exact this
   have E1:=Hd e1;have HB:=Hd hB;have HS:=Hd (hS.step hb1 (by omega));have HF:=Hd hf;clear hB hS hf e1 hb1;go_wp2;rw [E1.o];exact⟨⟨k+1,_,by omega,by go_num,HB.o.set_ _ _,HS.o,Fr.setCell (S:=fun k=>k=g) HF.o (fun _=>rfl) _⟩,by simp [intOf];omega⟩
  ·obtain rfl:k=n:=by omega
   have HB:=Hd hB;have HS:=Hd hS;have HF:=Hd hf;clear hB hS hf;go_wp2;go_end0;exact⟨rfl,cur',HB.o,HS.o,HF.o⟩
theorem Q3:(Tryz.prog.info? 5).map (fun i=>(i.zero,i.size,i.bytes))=some (some (.int .u8 0),1,1):=by kernel_rfl
def Vx(w:World)(m:List UInt8)(e:Ending)(w':World):Prop:=
 ∃A n c,e= .returned (.slice A n c)∧J8 w' w.heap.size A n c m∧Below w.heap.size w w'
theorem Z3{w w1 w':World}{A:Option Addr}{n c:Nat}{l m:List UInt8}(h:J8 w' w.heap.size A n c l)(hl:l=m)(h1:Below w.heap.size w w1){S:Nat→Prop}(hg:Fr S w1 w')(hS:∀k,k<w.heap.size→¬S k):Vx w m (.returned (.slice A n c)) w':=by
 subst hl;exact⟨A,n,c,rfl,h,h1.trans (hg.belowB hS h1.size)⟩
theorem Sj(A:Option Addr)(n c:Nat)(l:List UInt8)(w:World)(h:Cw w A n l)(hl:n≤1099511627776):
  Calls Tryz.prog 68 #[.slice A n c] w (Vx w l):=by
 have hnil:=fun(w:World) (A:Option Addr) (n c:Nat)=>Lib.run_eql_slice_nil (P:=Tryz.prog) w 28 5 A n c 0 0 Tryz.underlying28
 rcases A with _|a
 ·obtain⟨rfl,rfl⟩:=h.none_ Dk (by omega);clear h hl;go_enter Tryz.func68,Tryz.ntmps68;go_wp2_with fail;go_ret;exact⟨none,0,0,rfl,Own.nil _ _,Below.refl _ _⟩
 ·have hr:Cw (w.alloc (.cells #[] 5)) (some a) n l:=h.alloc _;have ho:J8 (w.alloc (.cells #[] 5)) w.heap.size (some ⟨w.heap.size,0,none⟩) 0 0 []:=⟨rfl,World.ownsRow_lit w #[] 0 (Ath _) (Nat.zero_le _) rfl⟩;have HR:=Hd hr;clear h hr;go_enter Tryz.func68,Tryz.ntmps68;go_wp2_with (at_builtin;refine Dt _ rfl (.tmp 5) (.tmp 6) _ rfl 5 _ 1 1 Tryz.underlying28 Q3 rfl (by omega) Dk Uc _ _ _ _ _ rfl ho _ _ _ _ rfl HR.o (by omega) (by simp) ?_;intro A1 c1 w1 hown1 hfr1 hat1);go_ret;exact Z3 (by simpa using hown1) rfl ((Below.refl _ _).alloc (Ath _) _) hfr1 (by rintro k hk ⟨ad,h,h'⟩;injection h with h;subst h;simp at h';omega)
theorem J3{w:World}{A:Option Addr}{n c:Nat}{l:List UInt8}(h:Cw w A n l):(convert 28 9 (.slice A n c)).run Tryz.prog w= .ok (.string ⟨l.toArray⟩) w:=by
 rcases Nat.eq_zero_or_pos n with h0|h0
 ·subst h0;obtain rfl:l=[]:=List.eq_nil_of_length_eq_zero h.1;rw [run_convert_bytes_string w 28 9 5 A 0 c Tryz.underlying28 Tryz.underlying5 Tryz.underlying9];cases A with
  |none=>simp [Conv.bytesToString];rfl
  |some a=>
   have:=run_bytesToString (P:=Tryz.prog) w a 0 c [] (by simp [loadCells,loadCellsFrom]);rw [this];rfl
 ·obtain⟨b,off,rfl,_⟩:=h.some_ Dk (by omega) h0;have:=run_convert_bytes_arg (P:=Tryz.prog) w 28 5 Tryz.underlying28 Tryz.underlying5 b off n c (l.map fun x=>(x.toNat:Int)) (by simp [h.1]) (fun i hi=>by
   obtain⟨b',off',e,hk,hc⟩:=Kk h hi;injection e with e;injection e with e1 e2;subst e1 e2
   rw [hc];simp [List.getD,List.getElem?_eq_getElem hk]) 9 Tryz.underlying9
  have e0:∀m:List UInt8,(m.map fun x:UInt8=>(x.toNat:Int)).map (fun n=>UInt8.ofNat n.toNat)=m:=by
   intro m
   induction m with
   |nil=>rfl
   |cons x m ih=>rw [List.map_cons,List.map_cons,ih,Int.toNat_natCast,UInt8.ofNat_toNat]
  have e:strOfNums (l.map fun x:UInt8=>(x.toNat:Int))=⟨l.toArray⟩:=by
   unfold strOfNums;rw [e0]
  rw [this,e]
def eqB(l m:List UInt8):Bool:=decide (l=m)
theorem Apj(w:World)(v:Int)(x:UInt8)(h:v=(x.toNat:Int)):Cw (w.alloc (.cells #[.int .u8 v] 5)) (some ⟨w.heap.size,0,none⟩) 1 [x]:=by
 subst h;refine⟨rfl,fun j u hj=>?_⟩;have e:j=0:=by
  have:=(List.getElem?_eq_some_iff.1 hj).1;simp [bc] at this;omega
 subst e;have hu:u= .int .u8 (x.toNat:Int):=by simpa [bc] using hj.symm
 subst hu;exact⟨_,_,rfl,(Af.new w 5 _).cell 0⟩
theorem Ap6{w:World}{B g n c:Nat}{l:List UInt8}(h:J8 w B (some ⟨g,0,none⟩) n c l):∃cur,Af w g 5 cur∧n≤cur.size∧
  (∀(w':World) (cur':Array Value) (off k:Nat) (m:List UInt8),Af w' g 5 cur'→Lw cur off (m.flatMap bc) k cur'→m.length=k→off+k≤n→J8 w' B (some ⟨g,0,none⟩) n c (l.take off++m++l.drop (off+k))):=by
 obtain⟨hl,h1,h2⟩:=h;rcases h2 with⟨hv,_⟩|⟨g',cap,cur,hv,hb,hg,hnc,hcm,hcs,htake⟩
 ·cases hv
 ·injection hv with e1 _ e3
  injection e1 with e1
  injection e1 with e1
  subst e1 e3;simp only [Nat.mul_one] at hcs htake h1;refine⟨cur,hg,by omega,?_⟩;intro w' cur' off k m hB hS hm hk;refine⟨by simp;omega,?_,.inr ⟨g,c,cur',rfl,hb,hB,hnc,hcm,by rw [hS.1,Nat.mul_one];exact hcs,?_⟩⟩
  ·rw [Bj Dk];simp;omega
  ·rw [Nat.mul_one,hS.take (by rw [Bj Dk];omega) hk (by omega),htake,List.flatMap_append,List.flatMap_append,Me Dk,Ob Dk,Nat.mul_one,Nat.mul_one]
def N6(x:Int)(b:Bool):Int:=if Av x=true then(if b=true then 0 else 10) else 2
def N5(l:List UInt8)(x:Int)(u:Nat)(b:Bool):List UInt8:=if Av x=true∧b=true then l++Ai x.toNat u else []
def Zk(w:World)(m:List UInt8)(er:Int)(e:Ending)(w':World):Prop:=
 ∃A n c,e= .returned (.tuple #[.slice A n c,Aa Ab er])∧J8 w' w.heap.size A n c m∧Below w.heap.size w w'
theorem Ac0(A:Option Addr)(n c u F:Nat)(x:Int)(l:List UInt8)(caps:Array Value)(b:Bool)(w:World)(h:Cw w A n l)(hc:n≤c)(hn:n≤1099511627776)(hu:(u:Int)<18446744073709551616)
  (hF:∀(args:Array Value) (w:World),(callFunc F args).run Tryz.prog w= .ok (.enter F args) w)
  (hfit:Av x=true→Calls Tryz.prog F caps w fun e w'=>e= .returned (.bool b)∧w=w'):
  Calls Tryz.prog 47 #[.slice A n c,Aa Ab x,Aa Ac u,.func (.func F) #[] caps] w (Zk w (N5 l x u b) (N6 x b)):=by
 have HR:=Hd h;have HU:=Hd hu;have HFIT:=Hd hfit;clear h hu hfit;cases hx:Av x with
 |false=>
  have e1:=Hd (show N6 x b=2 by simp [N6,hx]);have e2:=Hd (show N5 l x u b=[] by simp [N5,hx]);have HX:=Hd hx;clear hx;go_enter Tryz.func47,Tryz.ntmps47;go_wp2_with (go_at_call 95;refine(K2 x _).mono ?_;rw [HX.o];rintro e w' ⟨rfl,rfl⟩);go_ret2;rw [e1.o,e2.o];exact⟨none,0,0,rfl,Own.nil _ _,Below.refl _ _⟩
 |true=>
  cases b with
  |false=>
   have e1:=Hd (show N6 x false=10 by simp [N6,hx]);have e2:=Hd (show N5 l x u false=[] by simp [N5]);have HX:=Hd hx;clear hx;go_enter Tryz.func47,Tryz.ntmps47;go_wp2_with (go_at_call 95;refine(K2 x _).mono ?_;rw [HX.o];rintro e w' ⟨rfl,rfl⟩);refine(HFIT.o HX.o).mono ?_;rintro e w' ⟨rfl,rfl⟩;clear hF;go_wp2;go_ret2;rw [e1.o,e2.o];exact⟨none,0,0,rfl,Own.nil _ _,Below.refl _ _⟩
  |true=>
   have hx8:(1:Int)≤x∧(x:Int)≤8:=by have:=Ck.1 hx;omega
   obtain⟨y,rfl⟩:∃y:Nat,x=y:=⟨x.toNat,by omega⟩;have hy1:1≤y:=by omega
   have hy8:y≤8:=by omega
   have e1:=Hd (show N6 y true=0 by simp [N6,hx]);have e2:=Hd (show N5 l y u true=l++Ai y u by simp [N5,hx]);have HX:=Hd hx;clear hx hx8;go_enter Tryz.func47,Tryz.ntmps47;go_wp2_with (go_at_call 95;refine(K2 y _).mono ?_;rw [HX.o];rintro e w' ⟨rfl,rfl⟩);refine(HFIT.o HX.o).mono ?_;rintro e w' ⟨rfl,rfl⟩;clear hF;go_wp2_with (first
    |(go_at_call 68;refine(Sj A n c l _ HR.o hn).mono ?_;rintro e w1 ⟨A1,n1,c1,rfl,hO1,hB1⟩;obtain rfl:n1=n:=(by rw [←hO1.1,HR.o.1]);have HO1:=Hd hO1;have HB1:=Hd hB1;clear hO1 hB1)
    |(at_builtin;refine Alm _ rfl (.tmp 20) (.tmp 21) _ _ rfl 5 _ 1 1 _ _ Tryz.underlying28 Tryz.underlying3 Q3 rfl (by omega) Dk Uc (0:UInt8) rfl _ _ _ _ _ rfl HO1.o y _ rfl rfl (by omega) (by omega) HB1.o.size ?_;intro A2 c2 w2 hown2 hfr2 hat2;have HO2:=Hd hown2;have HF2:=Hd hfr2;clear hown2 hfr2 hat2;have hcap2:=HO2.o.cap;rcases A2 with _|ad2))
   ·exact absurd (HO2.o.is.none_ Dk (by omega)).2 (by omega)
   ·obtain⟨had,hge,hlt⟩:=HO2.o.addr ad2 rfl;obtain⟨g,rfl⟩:∃g,ad2=⟨g,0,none⟩:=⟨_,had⟩;obtain⟨cur,hK,hsz,hback⟩:=Ap6 HO2.o;rw [Ho,Nat.zero_add];refine(Adb g n1 y (c2-n1) u cur w2 hK (by omega) hy8 HU.o).mono ?_;rintro e w3 ⟨rfl,cur3,hK3,hS3,hF3⟩;have HO3:=Hd (hback w3 cur3 n1 y _ hK3 hS3 (Aj _ _) (Ath _));have HF3:=Hd hF3;clear hK hback hK3 hS3 hF3;go_wp2;go_ret2;rw [e1.o,e2.o];refine⟨some ⟨g,0,none⟩,n1+y,c2,rfl,?_,?_⟩
    ·have e3:=HO3.o;rw [List.take_left' HR.o.1,List.drop_eq_nil_of_le (by simp [HR.o.1]),List.append_nil] at e3;exact e3
    ·refine Bs (Bs HB1.o HF2.o ?_) HF3.o ?_
     ·rintro k ⟨ad,h,rfl⟩;exact(HO1.o.addr ad h).2.1
     ·rintro k rfl;exact hge
theorem Akq(a b u:Nat)(x:Int)(w:World)(ha:Af w a 3 #[Aa Ab x])(hb:Af w b 22 #[Aa Ac u])(hx:Av x=true)(hu:(u:Int)<18446744073709551616):
  Calls Tryz.prog 48 #[.pointer (some ⟨a,0,none⟩),.pointer (some ⟨b,0,none⟩)] w fun e w'=>e= .returned (.bool (D4 x.toNat u))∧w=w':=by
 obtain⟨y,rfl⟩:∃y:Nat,x=y:=⟨x.toNat,by have:=Ck.1 hx;omega⟩;have c1:w.cell? ⟨a,0,none⟩=some (Aa Ab y):=ha.cell 0;have c2:w.cell? ⟨b,0,none⟩=some (Aa Ac u):=hb.cell 0;have HX:=Hd hx;have HU:=Hd hu;clear ha hb hx hu;go_enter Tryz.func48,Tryz.ntmps48;go_wp2_with (go_at_call 49;refine(Ai7 y u w HX.o HU.o).mono ?_;rintro e w1 ⟨rfl,rfl⟩);go_ret;exact⟨rfl,rfl⟩
theorem Aks{w W:World}{m:List UInt8}{er:Int}{e:Ending}{w':World}(hB:Below w.heap.size w W)(h:Zk W m er e w'):Zk w m er e w':=by
 obtain⟨A,n,c,he,hO,hB'⟩:=h;exact⟨A,n,c,he,hO.rebase hB.size,B6 hB hB'⟩
theorem Ao3(m:Int):IntKind.u64.wrap m=(((m % 18446744073709551616).toNat:Nat):Int):=by
 show m % 18446744073709551616=_;omega
theorem B5(w:World)(o:Obj)(t:TypeId)(cs:Array Value):Af ((w.alloc o).alloc (.cells cs t)) (w.heap.size+1) t cs:=by
 have h:=Af.new (w.alloc o) t cs;have e:(w.alloc o).heap.size=w.heap.size+1:=by simp
 rw [e] at h;exact h
theorem Ann(A:Option Addr)(n c u:Nat)(x:Int)(l:List UInt8)(w:World)(h:Cw w A n l)(hc:n≤c)(hn:n≤1099511627776)(hu:(u:Int)<18446744073709551616):
  Calls Tryz.prog 15 #[.slice A n c,Aa Ab x,Aa Ac u] w (Zk w (N5 l x u (D4 x.toNat u)) (N6 x (D4 x.toNat u))):=by
 have HR:=Hd h;have HU:=Hd hu;have HV:=HU;clear h hu;go_enter Tryz.func15,Tryz.ntmps15;go_wp2_with fail
 skip
 have hK1:=(Af.new w 3 #[Aa Ab x]).alloc (.cells #[Aa Ac (u:Int)] 22);have hK2:=B5 w (.cells #[Aa Ab x] 3) 22 #[Aa Ac (u:Int)];have hfit:=fun hx=>Akq w.heap.size (w.heap.size+1) u x _ hK1 hK2 hx HU.o
 have hI:=(HR.o.alloc (.cells #[Aa Ab x] 3)).alloc (.cells #[Aa Ac (u:Int)] 22);refine(Ac0 A n c _ 48 x l _ _ _ hI hc hn HV.o Tryz.call48 hfit).mono ?_;intro e w1 hP;obtain⟨A1,n1,c1,rfl,hO,hB⟩:=hP;have HO:=Hd hO;have HB:=Hd hB;clear hO hB;go_wp2;go_ret2;exact Aks (((Below.refl _ _).alloc (Ath _) _).alloc (by simp) _) ⟨A1,n1,c1,rfl,HO.o,HB.o⟩
def wd(n:Int):Nat:=2^(n % 4).toNat
theorem Aei(w:World)(vs:Array Value)(l:List UInt8)(n:Nat)(hn:l.length=n)(h:vs.toList=l.flatMap bc):Cw (w.alloc (.cells vs 5)) (some ⟨w.heap.size,0,none⟩) n l:=
 ⟨hn,fun j u hj=>⟨_,_,rfl,by rw [(Af.new w 5 vs).cell,Nat.zero_add,←Array.getElem?_toList,h];exact hj⟩⟩
def Ki(F:FuncId):Value:= .func (.func F) #[] #[]
def shZ:List Value:=[Aa Ab 0,.nilFunc,.nilFunc,Aa Ab 0]
def Ss(t:Nat):List Value:=
 if Wz t=true then(if 0<Ei t then [Aa Ab 0,Ki 339,Ki 340,Aa Ab 0] else [Aa Ab 1,Ki 341,Ki 340,Aa Ab 0]) else shZ
def Vj(t:Nat):List Value:=
 if t=10 then [Aa Ab 1,Ki 341,Ki 342,Aa Ab 1] else if t=9 then [Aa Ab 3,Ki 341,Ki 342,Aa Ab 1] else Ss t
def Kq(k t:Nat):List Value:=if t<k then Ss t else shZ
theorem Aqi(t:Nat):(Ss t).length=4:=by unfold Ss;split <;>(try split) <;>rfl
theorem Ab6(k t:Nat):(Kq k t).length=4:=by unfold Kq;split;exact Aqi t;rfl
def Om(k:Nat):Array Value:=((List.range 37).flatMap (Kq k)).toArray
def Kw:Array Value:=((List.range 37).flatMap Vj).toArray
def Tt:Array Value:=((List.range 37).flatMap fun _=>shZ).toArray
theorem Ar2:(Tryz.prog.info? 313).map (fun i=>(i.zero,i.size))=some (some (Value.agg Tt),148):=by kernel_rfl
theorem Jl(k:Nat):(Om k).size=148:=by
 unfold Om;rw [List.size_toArray,Bj (Ab6 k),List.length_range]
theorem Mg{k t i:Nat}(ht:t<37)(hi:i<4):(Om k)[t*4+i]?=(Kq k t)[i]?:=by
 unfold Om;rw [List.getElem?_toArray,G7 (Ab6 k) (List.range 37) t i (by simpa using ht) hi,List.getElem_range]
theorem Anr{k:Nat}(h:Wz k=false):Om (k+1)=Om k:=by
 unfold Om
 congr 1
 have e:Kq (k+1)=Kq k:=by
  funext t
  unfold Kq;by_cases h1:t<k
  ·rw [if_pos h1,if_pos (by omega)]
  ·by_cases h2:t=k
   ·subst h2;rw [if_pos (by omega),if_neg h1];unfold Ss;rw [h];rfl
   ·rw [if_neg (by omega),if_neg h1]
 rw [e]
theorem Ae3{k:Nat}(hk:k<37){a b c d:Value}(h:Ss k=[a,b,c,d]):((((Om k).setIfInBounds (k*4) a).setIfInBounds (k*4+1) b).setIfInBounds (k*4+2) c).setIfInBounds (k*4+3) d=Om (k+1):=by
 apply Array.ext_getElem?;intro j;have hs:=Jl k;by_cases hj:j<148
 ·have hd:j/4<37:=by omega
  have e:j/4*4+j % 4=j:=by omega
  have h1:=Mg (k:=k) hd (show j % 4<4 by omega);have h2:=Mg (k:=k+1) hd (show j % 4<4 by omega);rw [e] at h1 h2;rw [h2];simp only [Array.getElem?_setIfInBounds,Array.size_setIfInBounds,hs];by_cases hkj:j/4=k
  ·have hkr:Kq (k+1) (j/4)=[a,b,c,d]:=by rw [hkj];unfold Kq;rw [if_pos (by omega),h]
   rw [hkr];have hm:j % 4=0∨j % 4=1∨j % 4=2∨j % 4=3:=by omega
   rcases hm with hm|hm|hm|hm <;>rw [hm]
   ·rw [if_neg (by omega),if_neg (by omega),if_neg (by omega),if_pos (by omega),if_pos (by omega)];rfl
   ·rw [if_neg (by omega),if_neg (by omega),if_pos (by omega),if_pos (by omega)];rfl
   ·rw [if_neg (by omega),if_pos (by omega),if_pos (by omega)];rfl
   ·rw [if_pos (by omega),if_pos (by omega)];rfl
  ·rw [if_neg (by omega),if_neg (by omega),if_neg (by omega),if_neg (by omega),h1]
   congr 1
   unfold Kq;by_cases h1:j/4<k
   ·rw [if_pos h1,if_pos (by omega)]
   ·rw [if_neg h1,if_neg (by omega)]
 ·rw [Array.getElem?_eq_none (by simp [hs];omega),Array.getElem?_eq_none (by rw [Jl];omega)]
theorem Alk{ops:Array Oper}{rest:List Oper}{o:Oper}{a:Act}{w:World}{Q:Exit→Act→World→Prop}(hgd:o.guard=none)(p:Operand)(ty:TypeId)(ho:o.op= .load ty p)(g:Nat)(hp:a.eval p= .pointer (some ⟨g,0,none⟩))(v:Value)
  (h:(loadVar ty ⟨g,0,none⟩).run Tryz.prog w= .ok v w) (hk:wpList Tryz.prog ops Q rest (a.put o.dst v) w):wpList Tryz.prog ops Q (o::rest) a w:=by
 refine wpList_plain hgd fun K hK=>?_
 unfold Oper.wp;simp only [execOp,ho,hp,Instr.loadAt,Instr.sureAddr,Sem.run_bind,Sem.run_pure,Result.andThen_ok,h];exact hK _ _ hk
theorem Ahs{ops:Array Oper}{rest:List Oper}{o:Oper}{a:Act}{w w':World}{Q:Exit→Act→World→Prop}(hgd:o.guard=none)(p x:Operand)(ty:TypeId)(ho:o.op= .store ty p x)(g:Nat)(hp:a.eval p= .pointer (some ⟨g,0,none⟩))(v:Value)(hx:a.eval x=v)
  (h:(storeVar ty ⟨g,0,none⟩ v).run Tryz.prog w= .ok () w') (hk:wpList Tryz.prog ops Q rest (a.put o.dst undef) w'):wpList Tryz.prog ops Q (o::rest) a w:=by
 refine wpList_plain hgd fun K hK=>?_
 unfold Oper.wp;simp only [execOp,ho,hp,hx,Instr.storeAt,Instr.sureAddr,Sem.run_bind,Sem.run_pure,Result.andThen_ok,h];exact hK _ _ hk
theorem Hg{W:World}{g i:Nat}{t:TypeId}{cs:Array Value}{v:Value}(h:Af W g t cs)(hi:i<cs.size)(h1:v.oneCell'=true):(store ⟨g,i,none⟩ v).run Tryz.prog W= .ok () (W.setCell ⟨g,i,none⟩ v):=by
 rw [run_store Tryz.prog W _ v _ h1,h.cell i,Array.getElem?_eq_getElem hi];simp [h.frozen i]
theorem Lh(w:World):Calls Tryz.prog 268 #[] w fun e w'=>e= .returned (.agg Kw)∧Below w.heap.size w w':=by
 have hz:=(zero_of_info Ar2).1;have hsz:Tt.size=148:=by kernel_rfl
 go_enter Tryz.func268,Tryz.ntmps268;go_wp2_with fail;go_loopw [2,3,4,5,6] (fun _ _ _ _ i wr=>∃k:Nat,k≤37∧i= Aa Ab k∧Af wr (w.heap.size+1) 313 (Om k)∧Af wr w.heap.size 313 Tt∧Below w.heap.size w wr) (fun _ _ _ _ i _=>37-(intOf i).toNat)
 case atStart=>exact⟨0,by omega,rfl,by rw [show Om 0=Tt by kernel_rfl];exact Af.new_ (by simp) _ _,(Af.new w _ _).alloc _,((Below.refl _ _).alloc (Ath _) _).alloc (by simp) _⟩
 case round=>
  obtain⟨k,hk,rfl,hK,hZ,hB⟩:=hrel;have HK:=Hd hK;have HZ:=Hd hZ;have HB:=Hd hB;clear hK hZ hB hz hsz;by_cases hlt:k<37
  ·have hk0:(0:Int)≤k:=by omega
   have hk37:(k:Int)<37:=by omega
   go_wp2_with fail;go_at_call 302;refine(Qu k _).mono ?_;rintro e w1 ⟨rfl,hb⟩;replace HK:=Hd (HK.o.pure hb);replace HZ:=Hd (HZ.o.pure hb);replace HB:=Hd (Ad HB.o hb);clear hb;cases hv:Wz k with
   |false=>
    have HV:=Hd hv;clear hv;go_wp2;go_roundw
    case rel=>exact⟨k+1,by omega,by go_num,by rw [Anr HV.o];exact HK.o,HZ.o,HB.o⟩
    case measure=>simp [intOf];omega
   |true=>
    have c0:w1.cell? ⟨w.heap.size+1,k*4,none⟩=some (Aa Ab 0):=(HK.o.cell (k*4)).trans (by rw [show k*4=k*4+0 by omega,Mg hlt (by omega)];unfold Kq;rw [if_neg (by omega)];rfl);have c1:w1.cell? ⟨w.heap.size+1,k*4+1,none⟩=some .nilFunc:=(HK.o.cell (k*4+1)).trans (by rw [Mg hlt (by omega)];unfold Kq;rw [if_neg (by omega)];rfl);have c2:w1.cell? ⟨w.heap.size+1,k*4+2,none⟩=some .nilFunc:=(HK.o.cell (k*4+2)).trans (by rw [Mg hlt (by omega)];unfold Kq;rw [if_neg (by omega)];rfl);have c3:w1.cell? ⟨w.heap.size+1,k*4+3,none⟩=some (Aa Ab 0):=(HK.o.cell (k*4+3)).trans (by rw [Mg hlt (by omega)];unfold Kq;rw [if_neg (by omega)];rfl);have f0:=HK.o.frozen (k*4);have f1:=HK.o.frozen (k*4+1);have f2:=HK.o.frozen (k*4+2);have f3:=HK.o.frozen (k*4+3);by_cases hm:0<Ei k
    ·have hvr:Ss k=[Aa Ab 0,.func (.func 339) #[] #[],.func (.func 340) #[] #[],Aa Ab 0]:=by unfold Ss;rw [if_pos hv,if_pos hm];rfl
     have HV:=Hd hvr;have hs1:=Hg (i:=k*4+1) (v:= .func (.func 339) #[] #[]) (HK.o.set_ (k*4) (Aa Ab 0)) (by simp [Jl];omega) rfl;have hs2:=Hg (i:=k*4+2) (v:= .func (.func 340) #[] #[]) ((HK.o.set_ (k*4) (Aa Ab 0)).set_ (k*4+1) (.func (.func 339) #[] #[])) (by simp [Jl];omega) rfl;clear hv hvr;go_wp2;go_roundw
     case rel=>exact⟨k+1,by omega,by go_num,by rw [←Ae3 hlt HV.o];exact(((HK.o.set_ _ _).set_ _ _).set_ _ _).set_ _ _,(((HZ.o.far (by simp) _).far (by simp) _).far (by simp) _).far (by simp) _,(((HB.o.setCell (Atk _) _).setCell (Atk _) _).setCell (Atk _) _).setCell (Atk _) _⟩
     case measure=>simp [intOf];omega
    ·have hvr:Ss k=[Aa Ab 1,.func (.func 341) #[] #[],.func (.func 340) #[] #[],Aa Ab 0]:=by unfold Ss;rw [if_pos hv,if_neg hm];rfl
     have HV:=Hd hvr;have hs1:=Hg (i:=k*4+1) (v:= .func (.func 341) #[] #[]) (HK.o.set_ (k*4) (Aa Ab 1)) (by simp [Jl];omega) rfl;have hs2:=Hg (i:=k*4+2) (v:= .func (.func 340) #[] #[]) ((HK.o.set_ (k*4) (Aa Ab 1)).set_ (k*4+1) (.func (.func 341) #[] #[])) (by simp [Jl];omega) rfl;clear hv hvr;go_wp2;go_roundw
     case rel=>exact⟨k+1,by omega,by go_num,by rw [←Ae3 hlt HV.o];exact(((HK.o.set_ _ _).set_ _ _).set_ _ _).set_ _ _,(((HZ.o.far (by simp) _).far (by simp) _).far (by simp) _).far (by simp) _,(((HB.o.setCell (Atk _) _).setCell (Atk _) _).setCell (Atk _) _).setCell (Atk _) _⟩
     case measure=>simp [intOf];omega
  ·obtain rfl:k=37:=by omega
   have hcs:(Om 37).size=148:=Jl 37;have c40:wr.cell? ⟨w.heap.size+1,40,none⟩=some (Aa Ab 0):=(HK.o.cell 40).trans (by kernel_rfl);have c43:wr.cell? ⟨w.heap.size+1,43,none⟩=some (Aa Ab 0):=(HK.o.cell 43).trans (by kernel_rfl);have c36:wr.cell? ⟨w.heap.size+1,36,none⟩=some (Aa Ab 0):=(HK.o.cell 36).trans (by kernel_rfl);have c39:wr.cell? ⟨w.heap.size+1,39,none⟩=some (Aa Ab 0):=(HK.o.cell 39).trans (by kernel_rfl);have f40:=HK.o.frozen 40;have f41:=HK.o.frozen 41;have f42:=HK.o.frozen 42;have f43:=HK.o.frozen 43;have f36:=HK.o.frozen 36;have f37:=HK.o.frozen 37;have f38:=HK.o.frozen 38;have f39:=HK.o.frozen 39;have HB0:=HK;have HB1:=Hd (HB0.o.set_ 40 (Aa Ab 1));have s41:=Hg (i:=41) (v:=(.func (.func 341) #[] #[])) HB1.o (by simp [hcs]) rfl;have HB2:=Hd (HB1.o.set_ 41 (.func (.func 341) #[] #[]));have s42:=Hg (i:=42) (v:=(.func (.func 342) #[] #[])) HB2.o (by simp [hcs]) rfl;have HB3:=Hd (HB2.o.set_ 42 (.func (.func 342) #[] #[]));have HB4:=Hd (HB3.o.set_ 43 (Aa Ab 1));have HB5:=Hd (HB4.o.set_ 36 (Aa Ab 3));have s37:=Hg (i:=37) (v:=(.func (.func 341) #[] #[])) HB5.o (by simp [hcs]) rfl;have HB6:=Hd (HB5.o.set_ 37 (.func (.func 341) #[] #[]));have s38:=Hg (i:=38) (v:=(.func (.func 342) #[] #[])) HB6.o (by simp [hcs]) rfl;have HB7:=Hd (HB6.o.set_ 38 (.func (.func 342) #[] #[]));have HB8:=Hd (HB7.o.set_ 39 (Aa Ab 1));have hfin:Af ((((((((wr.setCell ⟨w.heap.size+1,40,none⟩ (Aa Ab 1)).setCell ⟨w.heap.size+1,41,none⟩ (.func (.func 341) #[] #[])).setCell ⟨w.heap.size+1,42,none⟩ (.func (.func 342) #[] #[])).setCell ⟨w.heap.size+1,43,none⟩ (Aa Ab 1)).setCell ⟨w.heap.size+1,36,none⟩ (Aa Ab 3)).setCell ⟨w.heap.size+1,37,none⟩ (.func (.func 341) #[] #[])).setCell ⟨w.heap.size+1,38,none⟩ (.func (.func 342) #[] #[])).setCell ⟨w.heap.size+1,39,none⟩ (Aa Ab 1)) (w.heap.size+1) 313 Kw:=by
    have:=HB8.o;rw [show((((((((Om 37).setIfInBounds 40 (Aa Ab 1)).setIfInBounds 41 (.func (.func 341) #[] #[])).setIfInBounds 42 (.func (.func 342) #[] #[])).setIfInBounds 43 (Aa Ab 1)).setIfInBounds 36 (Aa Ab 3)).setIfInBounds 37 (.func (.func 341) #[] #[])).setIfInBounds 38 (.func (.func 342) #[] #[])).setIfInBounds 39 (Aa Ab 1)=Kw by kernel_rfl] at this;exact this
   have HFIN:=Hd hfin;clear HB0 HB1 HB2 HB3 HB4 HB5 HB6 HB7 HB8 hfin hcs;have HZF:Hid (Af ((((((((wr.setCell ⟨w.heap.size+1,40,none⟩ (Aa Ab 1)).setCell ⟨w.heap.size+1,41,none⟩ (.func (.func 341) #[] #[])).setCell ⟨w.heap.size+1,42,none⟩ (.func (.func 342) #[] #[])).setCell ⟨w.heap.size+1,43,none⟩ (Aa Ab 1)).setCell ⟨w.heap.size+1,36,none⟩ (Aa Ab 3)).setCell ⟨w.heap.size+1,37,none⟩ (.func (.func 341) #[] #[])).setCell ⟨w.heap.size+1,38,none⟩ (.func (.func 342) #[] #[])).setCell ⟨w.heap.size+1,39,none⟩ (Aa Ab 1)) w.heap.size 313 Tt):=Hd ((((((((HZ.o.far (by simp) _).far (by simp) _).far (by simp) _).far (by simp) _).far (by simp) _).far (by simp) _).far (by simp) _).far (by simp) _);have HBF:Hid (Below w.heap.size w ((((((((wr.setCell ⟨w.heap.size+1,40,none⟩ (Aa Ab 1)).setCell ⟨w.heap.size+1,41,none⟩ (.func (.func 341) #[] #[])).setCell ⟨w.heap.size+1,42,none⟩ (.func (.func 342) #[] #[])).setCell ⟨w.heap.size+1,43,none⟩ (Aa Ab 1)).setCell ⟨w.heap.size+1,36,none⟩ (Aa Ab 3)).setCell ⟨w.heap.size+1,37,none⟩ (.func (.func 341) #[] #[])).setCell ⟨w.heap.size+1,38,none⟩ (.func (.func 342) #[] #[])).setCell ⟨w.heap.size+1,39,none⟩ (Aa Ab 1))):=Hd ((((((((HB.o.setCell (Atk _) _).setCell (Atk _) _).setCell (Atk _) _).setCell (Atk _) _).setCell (Atk _) _).setCell (Atk _) _).setCell (Atk _) _).setCell (Atk _) _);clear HZ HB HK;go_upto_region 13 with fail
   generalize ((((((((wr.setCell ⟨w.heap.size+1,40,none⟩ (Aa Ab 1)).setCell ⟨w.heap.size+1,41,none⟩ (.func (.func 341) #[] #[])).setCell ⟨w.heap.size+1,42,none⟩ (.func (.func 342) #[] #[])).setCell ⟨w.heap.size+1,43,none⟩ (Aa Ab 1)).setCell ⟨w.heap.size+1,36,none⟩ (Aa Ab 3)).setCell ⟨w.heap.size+1,37,none⟩ (.func (.func 341) #[] #[])).setCell ⟨w.heap.size+1,38,none⟩ (.func (.func 342) #[] #[])).setCell ⟨w.heap.size+1,39,none⟩ (Aa Ab 1))=wf at HFIN HZF HBF⊢;clear c40 c43 c36 c39 f40 f41 f42 f43 f36 f37 f38 f39 s41 s42 s37 s38;have hld:(loadVar 313 ⟨w.heap.size+1,0,none⟩).run Tryz.prog wf= .ok (.agg Kw) wf:=run_loadVar_row wf _ _ _ Kw (0,0) _ HFIN.o Tryz.underlying313 rfl (by kernel_rfl);have hst:(storeVar 313 ⟨w.heap.size,0,none⟩ (.agg Kw)).run Tryz.prog wf= .ok () (wf.setRow w.heap.size Kw):=run_storeVar_row wf _ _ _ Tt Kw HZF.o (by kernel_rfl) (by kernel_rfl) (by kernel_rfl);have hrow:(wf.setRow w.heap.size Kw).heap[w.heap.size]?=some (.cells Kw 313 (0,0)):=setRow_heap wf _ Tt _ _ _ HZF.o;have HROW:=Hd hrow;clear hrow;go_wp2_with (first
    |(refine Alk rfl (.tmp 1) 313 rfl _ rfl _ hld ?_)
    |(refine Ahs rfl (.tmp 0) (.tmp 32) 313 rfl _ rfl _ rfl hst ?_))
   refine bodyPost_ret (v:= .agg Kw) ?_ rfl ⟨rfl,HBF.o.trans ⟨rfl,rfl,rfl,by simp [World.setRow],fun i hi=>setRow_other wf w.heap.size i _ (by omega)⟩⟩;refine results_cell_row (fn:=Tryz.f268) rfl _ _ w.heap.size 313 Kw (0,0) _ ?_ HROW.o Tryz.underlying313 rfl (by kernel_rfl);rfl
end Go.Proofs.YtgbjodnegkbfoaaGreat
namespace Go.Proofs.YtgbjodnegkbfoaaGreat
open Go.Acc
inductive Tr where
 |mk (k n:Int) (u:Nat) (s:List UInt8) (ks:List (List UInt8)) (l:List Tr)
namespace Tr
def k:Tr→Int| .mk k _ _ _ _ _=>k
def n:Tr→Int| .mk _ n _ _ _ _=>n
def u:Tr→Nat| .mk _ _ u _ _ _=>u
def s:Tr→List UInt8| .mk _ _ _ s _ _=>s
def ks:Tr→List (List UInt8)| .mk _ _ _ _ ks _=>ks
def l:Tr→List Tr| .mk _ _ _ _ _ l=>l
end Tr
structure Bv where
 t:Nat
 w:Nat
 n:Nat
structure Bd where
 b:List UInt8
 s:List Bv
 keys:List (List UInt8×Nat)
 texts:List (List UInt8×Nat)
 lists:List (List UInt8×Nat)
 names:List (Nat×List UInt8)
 vals:List Bv
def bWidth(u:Nat):Nat:=if u<256 then 1 else if u<65536 then 2 else if u<4294967296 then 4 else 8
def bWidthI(n:Int):Nat:=if -128≤n∧n<128 then 1 else if -32768≤n∧n<32768 then 2 else if -2147483648≤n∧n<2147483648 then 4 else 8
def bits(n:Int):Nat:=(n % 18446744073709551616).toNat
def Jk(w n:Nat):Nat:=(w-n % w) % w
def Ah(w:Nat)(l:List UInt8):List UInt8:=l++Atm (Jk w l.length) 0
def inl(t:Nat):Bool:=An t
def upN(n w:Nat):Nat:=(n+w-1)/w*w
def Cu(v:Bv)(a i w:Nat):Bool:=if inl v.t=true then decide (v.w≤w) else decide (v.n≤a∧bWidth (upN a w+i*w-v.n)≤w)
def leastW(f:Nat→Bool):Nat:=if f 1=true then 1 else if f 2=true then 2 else if f 4=true then 4 else if f 8=true then 8 else 0
def Du(a w:Nat):Nat→List Bv→Bool
 |_,[]=>true
 |i,v::r=>Cu v a i w&&Du a w (i+1) r
def Aap(a w:Nat):Option Bv→Bool
 |none=>true
 |some k=>Cu k a 0 w
def I7(a ahead:Nat)(k:Option Bv)(l:List Bv)(w:Nat):Bool:=(decide (ahead=0)||decide (bWidth l.length≤w))&&Aap a w k&&Du a w ahead l
def B3(a ahead:Nat)(k:Option Bv)(l:List Bv):Nat:=leastW (I7 a ahead k l)
def B9(w a:Nat)(v:Bv):Nat:=if inl v.t=true then v.n % 2^(8*w) else a-v.n
def Bn(w:Nat):List UInt8→List Bv→List UInt8
 |l,[]=>l
 |l,v::r=>Bn w (l++Ai w (B9 w l.length v)) r
def bCode(w:Nat):Nat:=if w=1 then 0 else if w=2 then 1 else if w=4 then 2 else 3
def C3(w:Nat)(v:Bv):UInt8:=UInt8.ofNat (4*v.t+bCode (if inl v.t=true then w else v.w))
def Bc(t:Nat)(len tags:Bool)(l:List Bv)(b:List UInt8):List UInt8×Bv:=
 let w:=B3 b.length (if len=true then 1 else 0) none l
 let c:=Ah w b++(if len=true then Ai w l.length else [])
 (Bn w c l++(if tags=true then l.map (C3 w) else []),⟨t,w,c.length⟩)
def Ds(k:Bv)(l:List Bv)(b:List UInt8):List UInt8×Bv:=
 let w:=B3 b.length 3 (some k) l
 let a:=Ah w b
 let c:=a++Ai w (a.length-k.n)++Ai w k.w++Ai w l.length
 (Bn w c l++l.map (C3 w),⟨9,w,c.length⟩)
def Bf(l:List (List UInt8×Nat))(k:List UInt8):Option Nat:=(l.find? fun x=>x.1==k).map (·.2)
def En(l:List (List UInt8×Nat))(k:List UInt8)(a:Nat):List (List UInt8×Nat):=if(Bf l k).isSome=true then l else l++ [(k,a)]
def Ek(f b:Nat):Bool:=decide (f/b % 2=1)
def Bd.push(b:Bd)(v:Bv):Bd:={ b with s:=b.s++ [v]}
def Bd.put(f:Nat)(s:List UInt8)(b:Bd):Bd×Bv:=
 match(if Ek f 1=true then Bf b.keys s else none) with
 |some a=>(b,⟨4,1,a⟩)
 |none=>({ b with b:=b.b++s++ [0],keys:=En b.keys s b.b.length,names:=(b.b.length,s)::b.names},⟨4,1,b.b.length⟩)
def Bd.key(f:Nat)(s:List UInt8)(b:Bd):Bd:=let x:=b.put f s;x.1.push x.2
def Bd.puts(f:Nat):List (List UInt8)→Bd→Bd×List Bv
 | [],b=>(b,[])
 |s::r,b=>let x:=b.put f s;let y:=Bd.puts f r x.1;(y.1,x.2::y.2)
def Bd.apart(t:Nat)(w n:Nat)(b:Bd):Bd:=
 let c:=Ah w b.b
 { b with b:=c++Ai w (n % 2^(8*w)),s:=b.s++ [⟨t,w,c.length⟩]}
def Bd.blob(s:List UInt8)(b:Bd):Bd:=
 let w:=bWidth s.length
 let c:=Ah w b.b++Ai w s.length
 { b with b:=c++s,s:=b.s++ [⟨25,w,c.length⟩]}
def Bd.str(f:Nat)(s:List UInt8)(b:Bd):Bd:=
 let w:=bWidth s.length
 match(if Ek f 2=true then Bf b.texts s else none) with
 |some a=>b.push ⟨5,w,a⟩
 |none=>
  let c:=Ah w b.b++Ai w s.length
  { b with b:=c++s++ [0],s:=b.s++ [⟨5,w,c.length⟩],texts:=En b.texts s c.length}
def Bd.vec(t:Nat)(len tags:Bool)(l:List Bv)(b:Bd):Bd:=
 let x:=Bc t len tags l b.b
 { b with b:=x.1,s:=b.s++ [x.2]}
def Bd.endVec(start:Nat)(b:Bd):Bd:=Bd.vec 10 true true (b.s.drop start) { b with s:=b.s.take start}
def Kh:List Bv→List Bv
 | []=>[]
 | [v]=>[v]
 |v::_::r=>v::Kh r
def Po(l:List Bv):List Bv:=Kh l.tail
def Bd.endMap(f:Nat)(keys:List (List UInt8))(start:Nat)(b:Bd):Bd:=
 let vs:=b.s.drop start
 let c:={ b with s:=b.s.take start}
 let list:=keys.flatMap fun s=>s++ [0]
 match(if Ek f 4=true then Bf c.lists list else none) with
 |some i=>let x:=Ds (c.vals.getD i ⟨0,0,0⟩) (Po vs) c.b;{ c with b:=x.1,s:=c.s++ [x.2]}
 |none=>
  let y:=Bc 14 true false (Kh vs) c.b
  let x:=Ds y.2 (Po vs) y.1
  { c with b:=x.1,s:=c.s++ [x.2],vals:=c.vals++ [y.2],lists:=En c.lists list c.vals.length}
def Cf(n:Int):Bv:=⟨1,bWidthI n,bits n⟩
def Ch(u:Nat):Bv:=⟨2,bWidth u,u⟩
def Cz(n:Int):Bv:=⟨26,1,if n=1 then 1 else 0⟩
def Bd.leaf(f:Nat)(k n:Int)(u:Nat)(s:List UInt8)(b:Bd):Bd:=
 if k=1 then b.push ⟨0,1,0⟩
 else if k=2 then b.push (Cz n)
 else if k=3 then b.push (Cf n)
 else if k=4 then b.push (Ch u)
 else if k=5 then b.key f s
 else if k=6 then b.str f s
 else if k=7 then b.blob s
 else if k=8 then b.apart 6 (bWidthI n) (bits n)
 else if k=9 then b.apart 7 (bWidth u) u
 else b
def Bd.flat(f:Nat)(k:Int)(l:List Tr)(b:Bd):Bd:=
 if k=11 then b.vec 11 true false (l.map fun t=>Cf t.n)
 else if k=12 then b.vec 12 true false (l.map fun t=>Ch t.u)
 else if k=14 then b.vec 36 true false (l.map fun t=>Cz t.n)
 else if k=13 then let x:=b.puts f (l.map Tr.s);x.1.vec 14 true false x.2
 else if k=15 then b.vec (10+3*l.length) false false (l.map fun t=>Cf t.n)
 else b.vec (11+3*l.length) false false (l.map fun t=>Ch t.u)
mutual
def Bd.calls(f:Nat):Tr→Bd→Bd
 | .mk k n u s ks l,b=>
  if k=10 then(Bd.callsL f l b).endVec b.s.length
  else if k=17 then(Bd.callsM f ks l b).endMap f ks b.s.length
  else if k≤9 then b.leaf f k n u s
  else b.flat f k l
def Bd.callsL(f:Nat):List Tr→Bd→Bd
 | [],b=>b
 |t::r,b=>Bd.callsL f r (Bd.calls f t b)
def Bd.callsM(f:Nat):List (List UInt8)→List Tr→Bd→Bd
 |_,[],b=>b
 |ks,t::r,b=>Bd.callsM f ks.tail r (Bd.calls f t (b.key f (ks.headD [])))
end
def Bd.new:Bd:=⟨[],[],[],[],[],[],[]⟩
def Bd.finish(b:Bd):List UInt8:=
 match b.s with
 | [v]=>
  let w:=leastW (Cu v b.b.length 0)
  let c:=Ah w b.b
  c++Ai w (B9 w c.length v)++ [C3 w v,UInt8.ofNat w]
 |_=>[]
def E0(f:Nat)(t:Tr):List UInt8:=(Bd.calls f t Bd.new).finish
end Go.Proofs.YtgbjodnegkbfoaaGreat
