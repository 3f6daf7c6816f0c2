/- Parts of the proof. -/
import Derived.Test.YtgbjodnegkbfoaaGreatRows
import Derived.WalkKit
import Derived.WalkSpells
import Derived.WalkLawsBesides
import Derived.Below
import Derived.Laws.OwnMore
import Derived.Deep.AppendLies
import Derived.Deep.Draws
import Derived.Laws.Rows
import Derived.Maps.AppendAt
import Derived.RegionTactic
import Derived.OwnWalk
import Derived.Deep.QuietTactic
import Derived.BigQuiet
import Derived.Lib.Hide
import Derived.Deep.Slices
import Derived.Deep.Fields
import Derived.Deep.RegionHeld3
import Derived.ChangeSame
import Derived.ProofKit
import Derived.OpenShut
import Derived.Deep.WholeRow
set_option maxHeartbeats 1000000
set_option maxRecDepth 100000
open Go.Value renaming int→Aa
open Go.IntKind renaming i64→Ab,u64→Ac
open Nat renaming le_refl→Ath,lt_of_lt_of_le→Atr
open List renaming getElem?_eq_getElem→Ati,length_cons→Atp,take_of_length_le→Att
namespace Go
theorem Hd{p:Prop}(h:p):RowKit.Hid p:=Lib.hid h
theorem RowKit.Hid.o{p:Prop}(h:RowKit.Hid p):p:=h.out
end Go
namespace Go.Acc
open Go.RowKit Go.ChangeShapes Go.WideShapes Go.Deep
theorem Ho(b off j:Nat):(⟨b,off,none⟩:Addr).add j=⟨b,off+j,none⟩:=by
 unfold Addr.add;split <;>simp_all
theorem Acd{w:World}{a:Addr}{u:Value}(h:w.cell? a=some u):a.spot=none:=by
 unfold World.cell? at h;split at h
 ·split at h
  ·cases h
  ·rename_i hs;simpa using hs
 ·cases h
def Rd(w:World)(A:Option Addr)(xs:List Value):Prop:=
 ∀j u,xs[j]?=some u→∃b off,A=some ⟨b,off,none⟩∧w.cell? ⟨b,off+j,none⟩=some u
structure Fr(S:Nat→Prop)(w w':World):Prop where
 os:w'.os=w.os
 tape:w'.tape=w.tape
 output:w'.output=w.output
 size:w.heap.size≤w'.heap.size
 block:∀k,k<w.heap.size→¬S k→w'.heap[k]?=w.heap[k]?
section
variable {w w' w'':World} {S T:Nat→Prop} {A:Option Addr} {xs ys:List Value}
theorem Fr.refl(S:Nat→Prop)(w:World):Fr S w w:=⟨rfl,rfl,rfl,Ath _,fun _ _ _=>rfl⟩
theorem Fr.trans(h:Fr S w w')(k:Fr T w' w'')(hT:∀i,i<w.heap.size→T i→S i):Fr S w w'':=
 ⟨k.os.trans h.os,k.tape.trans h.tape,k.output.trans h.output,Nat.le_trans h.size k.size,
  fun i hi hs=>(k.block i (Atr hi h.size) (fun ht=>hs (hT i hi ht))).trans (h.block i hi hs)⟩
theorem Fr.mono(h:Fr S w w')(hT:∀i,i<w.heap.size→S i→T i):Fr T w w':=
 ⟨h.os,h.tape,h.output,h.size,fun i hi hs=>h.block i hi (fun hS=>hs (hT i hi hS))⟩
theorem Fr.of_below(h:Below w.heap.size w w')(S:Nat→Prop):Fr S w w':=⟨h.os,h.tape,h.output,h.size,fun i hi _=>h.block i hi⟩
theorem Fr.below(h:Fr S w w')(hS:∀i,i<w.heap.size→¬S i):Below w.heap.size w w':=⟨h.os,h.tape,h.output,h.size,fun i hi=>h.block i hi (hS i hi)⟩
theorem Fr.belowB{B:Nat}(h:Fr S w w')(hS:∀i,i<B→¬S i)(hB:B≤w.heap.size):Below B w w':=⟨h.os,h.tape,h.output,h.size,fun i hi=>h.block i (by omega) (hS i hi)⟩
theorem Fr.of_grown{row:Option Nat}(h:w.grownBy w' row):Fr (fun k=>some k=row) w w':=⟨h.os,h.tape,h.output,h.size,fun i hi hs=>h.block i hi hs⟩
theorem Fr.drew(h:Fr S w w'):Fr S w w'.drew:=⟨h.os,h.tape,h.output,h.size,h.block⟩
theorem Fr.drewN(h:Fr S w w')(n:Nat):Fr S w (w'.drewN n):=⟨h.os,h.tape,h.output,h.size,h.block⟩
theorem Fr.alloc(h:Fr S w w')(o:Obj):Fr S w (w'.alloc o):=
 ⟨h.os,h.tape,h.output,Nat.le_trans h.size (by simp),fun i hi hs=>(Below.heap_alloc w' o i (Atr hi h.size)).trans (h.block i hi hs)⟩
theorem Fr.setCell(h:Fr S w w'){p:Addr}(hp:p.block<w.heap.size→S p.block)(u:Value):Fr S w (w'.setCell p u):=
 ⟨h.os,h.tape,h.output,by simpa [World.setCell] using h.size,fun i hi hs=>(Below.heap_setCell w' p u i (by
  rintro rfl;exact hs (hp hi))).trans (h.block i hi hs)⟩
theorem Fr.cell(h:Fr S w w'){p:Addr}(hp:p.block<w.heap.size)(hs:¬S p.block):w'.cell? p=w.cell? p:=World.cell?_of_block (w:=w) (h.block p.block hp hs)
theorem Fr.frozen(h:Fr S w w'){p:Addr}(hp:p.block<w.heap.size)(hs:¬S p.block):w'.frozen? p=w.frozen? p:=World.frozen?_of_block (w:=w) (h.block p.block hp hs)
theorem Ar{p:Addr}{u:Value}(h:w.cell? p=some u):p.block<w.heap.size:=World.block_lt_of_cell? w p h
theorem Ag(hb:Below w.heap.size w w'){p:Addr}{u:Value}(h:w.cell? p=some u):w'.cell? p=some u:=(hb.cell (Ar h)).trans h
theorem By(hb:Fr S w w'){p:Addr}{u:Value}(h:w.cell? p=some u)(hs:¬S p.block):w'.cell? p=some u:=(hb.cell (Ar h) hs).trans h
theorem B6(h:Below w.heap.size w w')(k:Below w'.heap.size w' w''):Below w.heap.size w w'':=h.trans (k.mono h.size)
theorem Ad{B:Nat}{a w w':World}(h:Below B a w)(k:Below w.heap.size w w')(hB:B≤a.heap.size:=by exact Nat.le_refl _):Below B a w':=h.trans (k.mono (Nat.le_trans hB h.size))
theorem Rd.nil(w:World)(A:Option Addr):Rd w A []:=fun j u h=>by simp at h
theorem Rd.keep(h:Rd w A xs)(hk:∀p u,w.cell? p=some u→(∀ad,A=some ad→p.block=ad.block)→w'.cell? p=some u):Rd w' A xs:=by
 intro j u hu;obtain⟨b,off,rfl,hc⟩:=h j u hu;exact⟨b,off,rfl,hk _ _ hc (fun ad had=>by injection had with had;subst had;rfl)⟩
theorem Rd.pure(h:Rd w A xs)(hb:Below w.heap.size w w'):Rd w' A xs:=h.keep fun _ _ hc _=>Ag hb hc
theorem Rd.fr(h:Rd w A xs)(hb:Fr S w w')(hs:∀ad,A=some ad→¬S ad.block):Rd w' A xs:=by
 intro j u hu;obtain⟨b,off,rfl,hc⟩:=h j u hu;exact⟨b,off,rfl,By hb hc (hs ⟨b,off,none⟩ rfl)⟩
theorem Rd.drew(h:Rd w A xs):Rd w.drew A xs:=h
theorem Rd.drewN(h:Rd w A xs)(k:Nat):Rd (w.drewN k) A xs:=h
theorem Rd.alloc(h:Rd w A xs)(o:Obj):Rd (w.alloc o) A xs:=h.pure ((Below.refl _ _).alloc (Ath _) o)
theorem Rd.at_{j:Nat}(h:Rd w A xs)(hj:j<xs.length):∃b off,A=some ⟨b,off,none⟩∧w.cell? ⟨b,off+j,none⟩=some xs[j]:=h j _ (Ati hj)
theorem Rd.lt(h:Rd w A xs)(hn:0<xs.length):∃b off,A=some ⟨b,off,none⟩∧b<w.heap.size:=by
 obtain⟨b,off,e,hc⟩:=h.at_ hn;exact⟨b,off,e,Ar hc⟩
theorem Rd.take(h:Rd w A xs)(n:Nat):Rd w A (xs.take n):=by
 intro j u hu;rw [List.getElem?_take] at hu;split at hu
 ·exact h j u hu
 ·cases hu
theorem Rd.drop(h:Rd w A xs)(n:Nat){c k:Nat}(hc:c=k→xs.length≤n):Rd w (if c=k then A else A.map (·.add n)) (xs.drop n):=by
 intro j u hu;rw [List.getElem?_drop] at hu;have hl:=(List.getElem?_eq_some_iff.1 hu).1;rw [if_neg (by intro e;have:=hc e;omega)];obtain⟨b,off,rfl,hcc⟩:=h _ u hu;exact⟨b,off+n,by simp [Ho],by rw [Nat.add_assoc];exact hcc⟩
theorem Rd.cells{b off:Nat}(h:Rd w (some ⟨b,off,none⟩) xs):∀j u,xs[j]?=some u→w.cell? ((⟨b,off,none⟩:Addr).add j)=some u:=by
 intro j u hu;obtain⟨b',off',e,hc⟩:=h j u hu;injection e with e
 injection e with e1 e2
 subst e1 e2;rw [Ho];exact hc
theorem Rd.of_own{base e size n c:Nat}(h:w.ownsRow base e size (.slice A n c) n xs):Rd w A xs:=by
 intro j u hu;rcases h.2 with⟨hv,rfl⟩|⟨g,cap,cur,hv,hb,hg,hnc,hcm,hcs,htake⟩
 ·have:=h.1;simp at this;subst this;simp at hu
 ·injection hv with hA hn hc
  subst hA;refine⟨g,0,rfl,?_⟩;have:=h.cells (g:=g) rfl j u hu
  rwa [Ho] at this
theorem Kn{base e size n c:Nat}{ad:Addr}(h:w.ownsRow base e size (.slice (some ad) n c) n xs)(j:Nat):w.frozen? ⟨ad.block,j,none⟩=false:=by
 rcases h.2 with⟨hv,_⟩|⟨g,cap,cur,hv,hb,hg,_⟩
 ·cases hv
 ·injection hv with hA
  injection hA with hA
  subst hA;exact frozen_of_row w g j cur e hg
theorem Ag5{base base' e size n:Nat}{v:Value}(h:w.ownsRow base e size v n xs)(hb:base'≤base):w.ownsRow base' e size v n xs:=by
 refine⟨h.1,?_⟩;rcases h.2 with hn|⟨g,cap,cur,rfl,hbg,rest⟩
 ·exact .inl hn
 ·exact .inr ⟨g,cap,cur,rfl,Nat.le_trans hb hbg,rest⟩
theorem Am7{base e size n:Nat}{v:Value}(h:w.ownsRow base e size v n xs)(hb:Below w.heap.size w w'):w'.ownsRow base e size v n xs:=
 h.kept (row:=none) ⟨hb.os,hb.tape,hb.output,hb.size,fun k hk _=>hb.block k hk⟩ (by cases v.ownBlock <;>simp)
theorem Art{base e size n:Nat}{v:Value}(h:w.ownsRow base e size v n xs)(hb:Fr S w w')(hs:∀g,v.ownBlock=some g→¬S g):w'.ownsRow base e size v n xs:=by
 refine⟨h.1,?_⟩;rcases h.2 with hn|⟨g,cap,cur,rfl,hbg,hg,rest⟩
 ·exact .inl hn
 ·exact .inr ⟨g,cap,cur,rfl,hbg,by rw [hb.block g (Array.getElem?_eq_some_iff.1 hg).1 (hs g rfl)];exact hg,rest⟩
theorem Anb{base e size n c:Nat}(h:w.ownsRow base e size (.slice A n c) n xs){k:Nat}(hk:k≤n)(hn:A≠none):w.ownsRow base e size (.slice A k c) k (xs.take (k*size)):=by
 rcases h.2 with⟨hv,_⟩|⟨g,cap,cur,hv,hb,hg,hnc,hcm,hcs,htake⟩
 ·injection hv with hA
  exact absurd hA hn
 ·injection hv with hA _ hc
  subst hA hc;refine⟨?_,.inr ⟨g,c,cur,rfl,hb,hg,by omega,hcm,hcs,?_⟩⟩
  ·rw [List.length_take,h.1];have:=Nat.mul_le_mul_right size hk;omega
  ·rw [←htake,List.take_take]
   congr 1
   have:=Nat.mul_le_mul_right size hk;omega
end
theorem Bs{N:Nat}{S:Nat→Prop}{w W W':World}(hb:Below N w W)(hf:Fr S W W')(hS:∀k,S k→N≤k)(hN:N≤w.heap.size:=by exact Nat.le_refl _):Below N w W':=
 hb.trans (hf.belowB (fun k hk e=>by have:=hS k e;omega) (Nat.le_trans hN hb.size))
def Af(w:World)(g:Nat)(t:TypeId)(cs:Array Value):Prop:=w.heap[g]?=some (.cells cs t (0,0))
section
variable {w w':World} {S:Nat→Prop} {g:Nat} {t:TypeId} {cs:Array Value}
theorem Af.lt(h:Af w g t cs):g<w.heap.size:=by
 rcases Nat.lt_or_ge g w.heap.size with hlt|hge
 ·exact hlt
 ·unfold Af at h;rw [Array.getElem?_eq_none hge] at h;cases h
theorem Af.cell(h:Af w g t cs)(i:Nat):w.cell? ⟨g,i,none⟩=cs[i]?:=cell_of_row w g i cs t (0,0) h
theorem Af.c2{w:World}{g:Nat}{t:TypeId}{xa xb:Value}{zs:List Value}(h:Af w g t (List.toArray (xa::xb::zs))):w.cell? ⟨g,0,none⟩=some xa∧w.cell? ⟨g,1,none⟩=some xb:=⟨h.cell 0,h.cell 1⟩
theorem Af.c3{w:World}{g:Nat}{t:TypeId}{xa xb xc:Value}{zs:List Value}(h:Af w g t (List.toArray (xa::xb::xc::zs))):w.cell? ⟨g,0,none⟩=some xa∧w.cell? ⟨g,1,none⟩=some xb∧w.cell? ⟨g,2,none⟩=some xc:=⟨h.cell 0,h.cell 1,h.cell 2⟩
theorem Af.c4{w:World}{g:Nat}{t:TypeId}{xa xb xc xd:Value}{zs:List Value}(h:Af w g t (List.toArray (xa::xb::xc::xd::zs))):w.cell? ⟨g,0,none⟩=some xa∧w.cell? ⟨g,1,none⟩=some xb∧w.cell? ⟨g,2,none⟩=some xc∧w.cell? ⟨g,3,none⟩=some xd:=⟨h.cell 0,h.cell 1,h.cell 2,h.cell 3⟩
theorem Af.c5{w:World}{g:Nat}{t:TypeId}{xa xb xc xd xe:Value}{zs:List Value}(h:Af w g t (List.toArray (xa::xb::xc::xd::xe::zs))):w.cell? ⟨g,0,none⟩=some xa∧w.cell? ⟨g,1,none⟩=some xb∧w.cell? ⟨g,2,none⟩=some xc∧w.cell? ⟨g,3,none⟩=some xd∧w.cell? ⟨g,4,none⟩=some xe:=⟨h.cell 0,h.cell 1,h.cell 2,h.cell 3,h.cell 4⟩
theorem Af.c6{w:World}{g:Nat}{t:TypeId}{xa xb xc xd xe xf:Value}{zs:List Value}(h:Af w g t (List.toArray (xa::xb::xc::xd::xe::xf::zs))):w.cell? ⟨g,0,none⟩=some xa∧w.cell? ⟨g,1,none⟩=some xb∧w.cell? ⟨g,2,none⟩=some xc∧w.cell? ⟨g,3,none⟩=some xd∧w.cell? ⟨g,4,none⟩=some xe∧w.cell? ⟨g,5,none⟩=some xf:=⟨h.cell 0,h.cell 1,h.cell 2,h.cell 3,h.cell 4,h.cell 5⟩
theorem Af.c9{w:World}{g:Nat}{t:TypeId}{xa xb xc xd xe xf xg xh xi:Value}{zs:List Value}(h:Af w g t (List.toArray (xa::xb::xc::xd::xe::xf::xg::xh::xi::zs))):w.cell? ⟨g,0,none⟩=some xa∧w.cell? ⟨g,1,none⟩=some xb∧w.cell? ⟨g,2,none⟩=some xc∧w.cell? ⟨g,3,none⟩=some xd∧w.cell? ⟨g,4,none⟩=some xe∧w.cell? ⟨g,5,none⟩=some xf∧w.cell? ⟨g,6,none⟩=some xg∧w.cell? ⟨g,7,none⟩=some xh∧w.cell? ⟨g,8,none⟩=some xi:=⟨h.cell 0,h.cell 1,h.cell 2,h.cell 3,h.cell 4,h.cell 5,h.cell 6,h.cell 7,h.cell 8⟩
theorem Af.frozen(h:Af w g t cs)(i:Nat):w.frozen? ⟨g,i,none⟩=false:=by
 unfold Af at h;simp [World.frozen?,h]
theorem Af.new(w:World)(t:TypeId)(cs:Array Value):Af (w.alloc (.cells cs t)) w.heap.size t cs:=heap_alloc_new w _
theorem Af.new_{w:World}{g:Nat}(h:w.heap.size=g)(t:TypeId)(cs:Array Value):Af (w.alloc (.cells cs t)) g t cs:=by subst h;exact Af.new w t cs
theorem Af.drew(h:Af w g t cs):Af w.drew g t cs:=h
theorem Af.alloc(h:Af w g t cs)(o:Obj):Af (w.alloc o) g t cs:=(Below.heap_alloc w o g h.lt).trans h
theorem Af.set_(h:Af w g t cs)(i:Nat)(u:Value):Af (w.setCell ⟨g,i,none⟩ u) g t (cs.setIfInBounds i u):=by
 unfold Af at h⊢;simp [World.setCell,Array.getElem?_modify,h]
theorem Af.far(h:Af w g t cs){p:Addr}(hp:g≠p.block)(u:Value):Af (w.setCell p u) g t cs:=(Below.heap_setCell w p u g hp).trans h
theorem Af.pure(h:Af w g t cs)(hb:Below w.heap.size w w'):Af w' g t cs:=(hb.block g h.lt).trans h
theorem Af.fr(h:Af w g t cs)(hb:Fr S w w')(hg:¬S g):Af w' g t cs:=(hb.block g h.lt hg).trans h
theorem Af.ne_{g':Nat}{t':TypeId}{cs':Array Value}(h:Af w g t cs)(h':Af w g' t' cs')(hne:t≠t'):g≠g':=by
 rintro rfl;unfold Af at h h';rw [h] at h';injection h' with h'
 injection h' with _ ht
 exact hne ht
theorem Hu{base e size n:Nat}{v:Value}{xs:List Value}(h:w.ownsRow base e size v n xs)(hg:Af w g t cs)(hne:e≠t):v.ownBlock≠some g:=by
 rcases h.2 with⟨rfl,_⟩|⟨g',cap,cur,rfl,_,hh,_⟩
 ·simp [Value.ownBlock]
 ·intro he;have:g'=g:=by simpa [Value.ownBlock] using he
  subst this;exact Af.ne_ (t:=e) hh hg hne rfl
end
section
variable {P:Program} (w:World)
theorem Lu(base:Nat)(t ty e:TypeId)(i:TypeInfo)(z:Value)(size bytes:Nat)(ht:P.underlying t=some (.slice e))(hi:P.info? e=some i)(hz:i.zero=some z)
  (hsize:i.size=size) (hby:i.bytes=bytes) (hzs:z.cells.size=size) (hsz:0<size)
  (v:Value) (n:Nat) (xs:List Value) (hown:w.ownsRow base e size v n xs)
  (A:Option Addr) (m c:Nat) (news:List Value) (hl:news.length=m*size) (hr:Rd w A news) (h1:∀u∈news,u.oneCell'=true)
  (h63:n+m≤maxLen) (hbytes:(n+m)*bytes≤140737488355328) (hbase:base≤w.heap.size):
  ∃v' w',(Builtin.append_ #[t,t] ty #[v,.slice A m c]).run P w= .ok v' w'∧w'.ownsRow base e size v' (n+m) (xs++news)∧w.grownBy w' v.ownBlock∧
   (v'.ownBlock=v.ownBlock∨v'.ownBlock=some w.heap.size):=by
 rcases Nat.eq_zero_or_pos m with rfl|hm
 ·have hn:news=[]:=List.eq_nil_of_length_eq_zero (by simpa using hl);subst hn;refine⟨v,w,?_,by simpa using hown,⟨rfl,rfl,rfl,Ath _,fun _ _ _=>rfl⟩,.inl rfl⟩;rcases hown.2 with⟨rfl,rfl⟩|⟨g,cap,cur,rfl,_,_,hnc,_⟩
  ·cases A <;>simp [Builtin.append_,run_underlying ht,sizeOf,typeInfo,hi,Builtin.lenOf,Builtin.firstCells,loadCells,loadCellsFrom]
  ·cases A <;>simp [Builtin.append_,run_underlying ht,sizeOf,typeInfo,hi,Builtin.lenOf,Builtin.firstCells,hnc,storeCells,loadCells,loadCellsFrom]
 ·have hpos:0<news.length:=by rw [hl];exact Nat.mul_pos hm hsz
  obtain⟨b,off,rfl,_⟩:=hr.lt hpos;obtain⟨v',w',hrun,h2,h3,_,h5⟩:=run_append_own_at (P:=P) w base t ty e i z size bytes ht hi hz hsize hby hzs hsz v n xs hown ⟨b,off,none⟩ m c news hl hr.cells h1 h63 hbytes hbase;exact⟨v',w',hrun,h2,h3,h5⟩
theorem Ahr{ops:Array Oper}{rest:List Oper}{o:Oper}{a:Act}{Q:Exit→Act→World→Prop}(hgd:Region.wanted o (yielded ops a.tmps)=true)(s x:Operand)(t:TypeId)
  (ho:o.op= .call { callee:= .builtin .append,args:=#[s,x],argTypes:=#[t,t]})
  (base:Nat) (e:TypeId) (z:Value) (size bytes:Nat) (ht:P.underlying t=some (.slice e)) (hi:(P.info? e).map (fun i=>(i.zero,i.size,i.bytes))=some (some z,size,bytes))
  (hzs:z.cells.size=size) (hsz:0<size)
  (v:Value) (n:Nat) (xs:List Value) (hs:a.eval s=v) (hown:w.ownsRow base e size v n xs)
  (A:Option Addr) (m c:Nat) (news:List Value) (hx:a.eval x= .slice A m c) (hl:news.length=m*size) (hr:Rd w A news) (h1:∀u∈news,u.oneCell'=true)
  (h63:n+m≤maxLen) (hbytes:(n+m)*bytes≤140737488355328) (hbase:base≤w.heap.size)
  (h:∀v' w',w'.ownsRow base e size v' (n+m) (xs++news)→w.grownBy w' v.ownBlock→(v'.ownBlock=v.ownBlock∨v'.ownBlock=some w.heap.size)→wpList P ops Q rest (a.put o.dst v') w'):
  wpList P ops Q (o::rest) a w:=by
 obtain⟨i,hi',hz,hsize,hby⟩:=info_parts hi;refine BigFrame.wpList_want hgd fun _ hK=>?_
 obtain⟨v',w',hrun,h2,h3,h4⟩:=Lu (P:=P) w base t o.type e i z size bytes ht hi' hz hsize hby hzs hsz v n xs hown A m c news hl hr h1 h63 hbytes hbase;unfold Oper.wp execOp;simp only [ho,resolve,invoke,builtin,Sem.run_bind,Sem.run_pure,Result.andThen_ok,List.map_toArray,List.map_cons,List.map_nil,hs,hx,hrun];exact hK _ _ (h v' w' h2 h3 h4)
end
theorem Tm{w:World}{base e size n:Nat}{v:Value}{xs:List Value}(h:w.ownsRow base e size v n xs):∃A c,v= .slice A n c∧n≤c∧c≤maxLen∧(∀ad,A=some ad→ad=⟨ad.block,0,none⟩∧base≤ad.block∧ad.block<w.heap.size):=by
 rcases h.2 with⟨rfl,rfl⟩|⟨g,cap,cur,rfl,hb,hg,hnc,hcm,_⟩
 ·exact⟨none,0,rfl,Ath _,Nat.zero_le _,fun ad h=>by cases h⟩
 ·exact⟨_,cap,rfl,hnc,hcm,fun ad h=>by injection h with h;subst h;exact⟨rfl,hb,(Array.getElem?_eq_some_iff.1 hg).1⟩⟩
section
variable {α:Type} {f:α→List Value} {sz:Nat}
theorem Bj(hf:∀x,(f x).length=sz)(l:List α):(l.flatMap f).length=l.length*sz:=by
 induction l with
 |nil=>simp
 |cons x l ih=>rw [List.flatMap_cons,List.length_append,hf,ih,Atp,Nat.succ_mul,Nat.add_comm]
theorem Me(hf:∀x,(f x).length=sz)(l:List α)(k:Nat):(l.take k).flatMap f=(l.flatMap f).take (k*sz):=by
 induction l generalizing k with
 |nil=>simp
 |cons x l ih=>
  cases k with
  |zero=>simp
  |succ k=>
   rw [List.take_succ_cons,List.flatMap_cons,List.flatMap_cons,ih,List.take_append,hf,Nat.succ_mul,Nat.add_sub_cancel,Att (l:=f x) (by rw [hf];exact Nat.le_add_left _ _)]
theorem Ob(hf:∀x,(f x).length=sz)(l:List α)(k:Nat):(l.drop k).flatMap f=(l.flatMap f).drop (k*sz):=by
 induction l generalizing k with
 |nil=>simp
 |cons x l ih=>
  cases k with
  |zero=>simp
  |succ k=>
   rw [List.drop_succ_cons,List.flatMap_cons,ih,List.drop_append,hf,Nat.succ_mul,Nat.add_sub_cancel,List.drop_eq_nil_of_le (show(f x).length≤k*sz+sz by rw [hf];exact Nat.le_add_left _ _),List.nil_append]
theorem G7(hf:∀x,(f x).length=sz)(l:List α)(k j:Nat)(hk:k<l.length)(hj:j<sz):(l.flatMap f)[k*sz+j]?=(f l[k])[j]?:=by
 have h:=Ob hf l k;rw [List.drop_eq_getElem_cons hk,List.flatMap_cons] at h;rw [←List.getElem?_drop,←h,List.getElem?_append_left (by rw [hf];exact hj)]
theorem Q0(h1:∀x,∀u∈f x,u.oneCell'=true)(l:List α):∀u∈l.flatMap f,u.oneCell'=true:=by
 intro u hu;obtain⟨x,_,hx⟩:=List.mem_flatMap.1 hu;exact h1 x u hx
def Is(f:α→List Value)(w:World)(A:Option Addr)(n:Nat)(l:List α):Prop:=l.length=n∧Rd w A (l.flatMap f)
def Own(f:α→List Value)(sz:Nat)(e:TypeId)(w:World)(B:Nat)(A:Option Addr)(n c:Nat)(l:List α):Prop:=l.length=n∧w.ownsRow B e sz (.slice A n c) n (l.flatMap f)
variable {w w':World} {A:Option Addr} {n c B:Nat} {l:List α} {e:TypeId} {S:Nat→Prop}
theorem Is.pure(h:Is f w A n l)(hb:Below w.heap.size w w'):Is f w' A n l:=⟨h.1,h.2.pure hb⟩
theorem Is.fr(h:Is f w A n l)(hb:Fr S w w')(hs:∀ad,A=some ad→¬S ad.block):Is f w' A n l:=⟨h.1,h.2.fr hb hs⟩
theorem Is.drewN(h:Is f w A n l)(k:Nat):Is f (w.drewN k) A n l:=h
theorem Is.alloc(h:Is f w A n l)(o:Obj):Is f (w.alloc o) A n l:=⟨h.1,h.2.alloc o⟩
theorem Is.nil(w:World)(A:Option Addr):Is f w A 0 []:=⟨rfl,Rd.nil w A⟩
theorem Is.none_(hf:∀x,(f x).length=sz)(hz:0<sz)(h:Is f w none n l):l=[]∧n=0:=by
 cases l with
 |nil=>exact⟨rfl,h.1.symm⟩
 |cons x l=>
  have hp:0<((x::l).flatMap f).length:=by rw [Bj hf,Atp,Nat.succ_mul];omega
  obtain⟨b,off,e,_⟩:=h.2.lt hp;cases e
theorem Is.some_(hf:∀x,(f x).length=sz)(hz:0<sz)(h:Is f w A n l)(hn:0<n):∃b off,A=some ⟨b,off,none⟩∧b<w.heap.size:=by
 have hp:0<(l.flatMap f).length:=by rw [Bj hf,h.1];exact Nat.mul_pos hn hz
 exact h.2.lt hp
theorem Is.at_(hf:∀x,(f x).length=sz)(hz:0<sz)(h:Is f w A n l){k:Nat}(hk:k<n):
  ∃b off,A=some ⟨b,off,none⟩∧∃hk:k<l.length,∀j,j<sz→w.cell? ⟨b,off+k*sz+j,none⟩=(f l[k])[j]?:=by
 obtain⟨b,off,rfl,_⟩:=h.some_ hf hz (by omega);have hk':k<l.length:=by rw [h.1];exact hk
 refine⟨b,off,rfl,hk',fun j hj=>?_⟩;have e:=G7 hf l k j hk' hj;have hj':(f l[k])[j]?=some ((f l[k])[j]'(by rw [hf];exact hj)):=Ati _;rw [hj'] at e⊢;obtain⟨b',off',e',hc⟩:=h.2 _ _ e;injection e' with e';injection e' with e1 e2;subst e1 e2
 rw [Nat.add_assoc];exact hc
theorem Is.take(hf:∀x,(f x).length=sz)(h:Is f w A n l){k:Nat}(hk:k≤n):Is f w A k (l.take k):=⟨by rw [List.length_take,h.1];omega,by rw [Me hf];exact h.2.take _⟩
theorem Is.cut0(h:Is f w A n l){k:Nat}(hk:c=k)(hc:n≤c):Is f w A (n-k) (l.drop k):=by
 have:=h.1;rw [List.drop_eq_nil_of_le (by omega)];exact⟨by simp;omega,Rd.nil _ _⟩
theorem Is.cut1(hf:∀x,(f x).length=sz)(h:Is f w A n l){k:Nat}:Is f w (A.map fun x=>x.add (k*sz)) (n-k) (l.drop k):=by
 refine⟨by rw [List.length_drop,h.1],?_⟩;rw [Ob hf];have:=h.2.drop (k*sz) (c:=1) (k:=0) (by omega);simpa using this
theorem Own.is(h:Own f sz e w B A n c l):Is f w A n l:=⟨h.1,Rd.of_own h.2⟩
theorem Own.pure(h:Own f sz e w B A n c l)(hb:Below w.heap.size w w'):Own f sz e w' B A n c l:=⟨h.1,Am7 h.2 hb⟩
theorem Own.fr(h:Own f sz e w B A n c l)(hb:Fr S w w')(hs:∀ad,A=some ad→¬S ad.block):Own f sz e w' B A n c l:=⟨h.1,Art h.2 hb (fun g hg=>by
 cases A with
 |none=>simp [Value.ownBlock] at hg
 |some ad=>simp [Value.ownBlock] at hg;subst hg;exact hs ad rfl)⟩
theorem Own.rebase{B':Nat}(h:Own f sz e w B A n c l)(hb:B'≤B):Own f sz e w B' A n c l:=⟨h.1,Ag5 h.2 hb⟩
theorem Own.nil(w:World)(B:Nat):Own f sz e w B none 0 0 []:=⟨rfl,World.ownsRow_nil _ _ _ _⟩
theorem Own.cap(h:Own f sz e w B A n c l):n≤c∧c≤maxLen:=by
 obtain⟨_,_,e,h1,h2,_⟩:=Tm h.2;injection e with _ _ e
 omega
theorem Own.addr(h:Own f sz e w B A n c l):∀ad,A=some ad→ad=⟨ad.block,0,none⟩∧B≤ad.block∧ad.block<w.heap.size:=by
 obtain⟨A',_,e,_,_,h3⟩:=Tm h.2;injection e with e
 subst e;exact h3
theorem Own.take(hf:∀x,(f x).length=sz)(h:Own f sz e w B A n c l){k:Nat}(hk:k≤n):Own f sz e w B A k c (l.take k):=by
 refine⟨by rw [List.length_take,h.1];omega,?_⟩;rw [Me hf];cases A with
 |none=>
  rcases h.2.2 with⟨hv,hn⟩|⟨_,_,_,hv,_⟩
  ·injection hv with _ h1 h2
   subst hn h2;obtain rfl:k=0:=by omega
   exact⟨by simp,.inl ⟨rfl,rfl⟩⟩
  ·cases hv
 |some ad=>exact Anb h.2 hk (by simp)
theorem Own.mk(hf:∀x,(f x).length=sz)(hz:0<sz){v:Value}{xs:List Value}(h:w.ownsRow B e sz v n xs)(hx:xs=l.flatMap f):∃A c,v= .slice A n c∧Own f sz e w B A n c l:=by
 subst hx;have hl:=h.1;rw [Bj hf] at hl;obtain⟨A,c,rfl,_⟩:=Tm h;exact⟨A,c,rfl,Nat.eq_of_mul_eq_mul_right hz hl,h⟩
end
section
variable {α:Type} {f:α→List Value} {P:Program} (w:World)
theorem Dt{ops:Array Oper}{rest:List Oper}{o:Oper}{a:Act}{Q:Exit→Act→World→Prop}(hgd:Region.wanted o (yielded ops a.tmps)=true)(s x:Operand)(t:TypeId)
  (ho:o.op= .call { callee:= .builtin .append,args:=#[s,x],argTypes:=#[t,t]})
  (e:TypeId) (z:Value) (sz bytes:Nat) (ht:P.underlying t=some (.slice e)) (hi:(P.info? e).map (fun i=>(i.zero,i.size,i.bytes))=some (some z,sz,bytes))
  (hzs:z.cells.size=sz) (hsz:0<sz) (hf:∀x,(f x).length=sz) (h1:∀x,∀u∈f x,u.oneCell'=true)
  (B:Nat) (A:Option Addr) (n c:Nat) (l:List α) (hs:a.eval s= .slice A n c) (hown:Own f sz e w B A n c l)
  (A2:Option Addr) (m d:Nat) (l2:List α) (hx:a.eval x= .slice A2 m d) (hr:Is f w A2 m l2)
  (hbytes:(n+m)*(bytes+1)≤140737488355328) (hbase:B≤w.heap.size)
  (h:∀A' c' w',Own f sz e w' B A' (n+m) c' (l++l2)→Fr (fun k=>∃ad,A=some ad∧k=ad.block) w w'→
   (A'.map (·.block)=A.map (·.block)∨A'.map (·.block)=some w.heap.size)→wpList P ops Q rest (a.put o.dst (.slice A' (n+m) c')) w'):
  wpList P ops Q (o::rest) a w:=by
 have e1:(n+m)*bytes≤140737488355328:=Nat.le_trans (Nat.mul_le_mul_left _ (Nat.le_succ _)) hbytes;have e2:n+m≤maxLen:=by
  have:n+m≤(n+m)*(bytes+1):=Nat.le_mul_of_pos_right _ (Nat.succ_pos _);simp only [maxLen];omega
 refine Ahr w hgd s x t ho B e z sz bytes ht hi hzs hsz _ n (l.flatMap f) hs hown.2 A2 m d (l2.flatMap f) hx (by rw [Bj hf,hr.1]) hr.2 (Q0 h1 l2) e2 e1 hbase ?_;intro v' w' h2 h3 h4;obtain⟨A',c',rfl,ho'⟩:=Own.mk hf hsz (l:=l++l2) h2 List.flatMap_append.symm;refine h A' c' w' ho' ((Fr.of_grown h3).mono fun i _ hi=>?_) ?_
 ·cases A with
  |none=>simp [Value.ownBlock] at hi
  |some ad=>simp [Value.ownBlock] at hi;exact⟨ad,rfl,hi⟩
 ·cases A <;>cases A' <;>simp only [Value.ownBlock,Option.map] at h4⊢ <;>exact h4
end
theorem He{k:IntKind}{a b:Int}(h:a=b):Ending.returned (.int k a)= .returned (.int k b):=by rw [h]
theorem C0{a b:Bool}(h:a=b):Ending.returned (.bool a)= .returned (.bool b):=by rw [h]
end Go.Acc
namespace Go.Acc
def Aov:List (Int×Int×Int):=
 [(1,0,0),(1,0,0),(1,0,0),(0,0,0),(2,0,0),(2,0,0),(2,0,0),(2,0,0),(0,0,0),(2,0,0),(2,0,0),(3,1,0),(3,2,0),(0,0,0),(3,4,0),(0,0,0),
 (3,1,2),(3,2,2),(0,0,0),(3,1,3),(3,2,3),(0,0,0),(3,1,4),(3,2,4),(0,0,0),(2,0,0),(1,0,0),(0,0,0),(0,0,0),(0,0,0),(0,0,0),(0,0,0),(0,0,0),(0,0,0),(0,0,0),(0,0,0),(3,26,0)]
def Ar4:List Int:=[1,3,4,0,5,6,8,9,0,17,10,11,12,0,13,0,15,16,0,15,16,0,15,16,0,7,2,0,0,0,0,0,0,0,0,0,14]
def Kv(t:Int):Bool:=decide (0≤t∧t<37)
def Fz(t:Int):Int×Int×Int:=if Kv t=true then Aov.getD t.toNat (0,0,0) else(0,0,0)
def Be(t:Int):Bool:=(Fz t).1 != 0
def An(t:Int):Bool:=(Fz t).1==1
def Wz(t:Int):Bool:=(Fz t).1==3
def F4(t:Int):Int:=(Fz t).2.1
def Ei(t:Int):Int:=(Fz t).2.2
def Cg(t:Int):Int:=if Kv t=true then Ar4.getD t.toNat 0 else 0
def t37:List Int:=[0,1,2,3,4,5,6,7,8,9,10,11,12,13,14,15,16,17,18,19,20,21,22,23,24,25,26,27,28,29,30,31,32,33,34,35,36]
theorem F9{t:Int}:Kv t=true↔0≤t∧t<37:=by simp [Kv]
theorem K6{p:Int→Prop}(h:∀n:Fin 37,p ((n.val:Nat):Int)){t:Int}(ht:Kv t=true):p t:=by
 have ht:=F9.1 ht;obtain⟨n,rfl⟩:=Int.eq_ofNat_of_zero_le ht.1;exact h ⟨n,by omega⟩
theorem Afc{t:Int}(h:Kv t=false):Fz t=(0,0,0):=by simp [Fz,h]
theorem Gv{t:Int}(h:Be t=true):Kv t=true:=by
 cases e:Kv t with
 |true=>rfl
 |false=>simp [Be,Afc e] at h
theorem Mw{t:Int}(h:An t=true):Be t=true:=by
 unfold An at h;unfold Be;rw [eq_of_beq h];rfl
def Ly(c:UInt8):Int:=if Be ((c.toNat:Int)/4)=true then(c.toNat:Int)/4 else 0
def Lz(c:UInt8):Int:=if Be ((c.toNat:Int)/4)=true then 2^(c.toNat % 4) else 0
def Hl(c:UInt8):Int:=if Be ((c.toNat:Int)/4)=true then 0 else 20
end Go.Acc
namespace Go.Proofs.YtgbjodnegkbfoaaGreat
open Go.RowKit Go.Acc
def bc(c:UInt8):List Value:=[.int .u8 (c.toNat:Int)]
theorem Dk(x:UInt8):(bc x).length=1:=rfl
theorem Uc(x:UInt8):∀u∈bc x,u.oneCell'=true:=by
 intro u hu;simp [bc] at hu;rw [hu];rfl
abbrev Cw:=Is bc
abbrev J8:=Own bc 1 5
theorem Kk{w:World}{A:Option Addr}{n:Nat}{l:List UInt8}(h:Cw w A n l){k:Nat}(hk:k<n):
  ∃b off,A=some ⟨b,off,none⟩∧∃hk:k<l.length,w.cell? ⟨b,off+k,none⟩=some (.int .u8 (l[k].toNat:Int)):=by
 obtain⟨b,off,e,hk',hc⟩:=h.at_ Dk (by omega) hk;have:=hc 0 (by omega);rw [Nat.mul_one,Nat.add_zero] at this;exact⟨b,off,e,hk',this⟩
def Av(w:Int):Bool:=decide (w=1∨w=2∨w=4∨w=8)
theorem Ck{w:Int}:Av w=true↔w=1∨w=2∨w=4∨w=8:=by simp [Av]
theorem Ajm{w:Int}:Av w=false↔w≠1∧w≠2∧w≠4∧w≠8:=by simp [Av];
theorem K2(x:Int)(w:World):Calls Tryz.prog 95 #[Aa Ab x] w fun e w'=>e= .returned (.bool (Av x))∧w=w':=by
 by_cases h1:x=1
 ·subst h1;go_enter Tryz.func95,Tryz.ntmps95;go_wp2;go_ret;exact⟨rfl,rfl⟩
 by_cases h2:x=2
 ·subst h2;go_enter Tryz.func95,Tryz.ntmps95;go_wp2;go_ret;exact⟨rfl,rfl⟩
 by_cases h4:x=4
 ·subst h4;go_enter Tryz.func95,Tryz.ntmps95;go_wp2;go_ret;exact⟨rfl,rfl⟩
 by_cases h8:x=8
 ·subst h8;go_enter Tryz.func95,Tryz.ntmps95;go_wp2;go_ret;exact⟨rfl,rfl⟩
 have H:=Hd (Ajm.2 ⟨h1,h2,h4,h8⟩);have e1:(x==1)=false:=by simpa using h1
 have e2:(x==2)=false:=by simpa using h2
 have e4:(x==4)=false:=by simpa using h4
 have e8:(x==8)=false:=by simpa using h8
 clear h1 h2 h4 h8;go_enter Tryz.func95,Tryz.ntmps95;go_wp2;go_ret;exact⟨C0 H.o.symm,rfl⟩
def E7(n:Nat)(at_ w:Int):Int:=if Av w=true then(if 0≤at_∧at_+w≤n then 0 else 6) else 2
theorem Ali(A:Option Addr)(n c:Nat)(a x:Int)(f:Value)(w:World)(h:E7 n a x≠0)(hn:n≤9223372036854775807):
  Calls Tryz.prog 264 #[.slice A n c,Aa Ab a,Aa Ab x,f] w fun e w'=>e= .returned (Aa Ab (E7 n a x))∧w=w':=by
 by_cases hw:Av x=true
 ·have hx8:=Ck.1 hw;have hr:¬(0≤a∧a+x≤n):=by intro hh;simp [E7,hw,hh] at h
  have H:=Hd (show E7 n a x=6 by simp only [E7,hw,if_true,if_neg hr]);have HW:=Hd hw;have hlo:1≤x:=by omega
  have hhi:x≤8:=by omega
  rw [H.o];by_cases h0:a<0
  ·clear h hw hx8 hr;go_enter Tryz.func264,Tryz.ntmps264;go_wp2_with (go_at_call 95;refine(K2 x _).mono ?_;rw [HW.o];rintro e w' ⟨rfl,rfl⟩);go_ret;exact⟨rfl,rfl⟩
  ·have h1:(n:Int)-x<a:=by omega
   clear h hw hx8 hr;go_enter Tryz.func264,Tryz.ntmps264;go_wp2_with (go_at_call 95;refine(K2 x _).mono ?_;rw [HW.o];rintro e w' ⟨rfl,rfl⟩);go_ret;exact⟨rfl,rfl⟩
 ·have hw':Av x=false:=by simpa using hw
  have H:=Hd (show E7 n a x=2 by simp [E7,hw']);have HW:=Hd hw';rw [H.o];clear h hw hw';go_enter Tryz.func264,Tryz.ntmps264;go_wp2_with (go_at_call 95;refine(K2 x _).mono ?_;rw [HW.o];rintro e w' ⟨rfl,rfl⟩);go_ret;exact⟨rfl,rfl⟩
theorem Ahq(A:Option Addr)(n c a x:Nat)(F:Nat)(caps:Array Value)(w:World)(R:Ending→World→Prop)(hw:Av x=true)(hr:a+x≤n)(hc:n≤c)(hn:n≤9223372036854775807)
  (hF:∀(args:Array Value) (w:World),(callFunc F args).run Tryz.prog w= .ok (.enter F args) w)
  (h:Calls Tryz.prog F (#[.slice (A.map fun p=>p.add a) x (c-a)]++caps) w fun e w'=>(∃v:Int,e= .returned (Aa Ab v))∧R e w'):
  Calls Tryz.prog 264 #[.slice A n c,Aa Ab a,Aa Ab x,.func (.func F) #[] caps] w R:=by
 have hx8:(1:Int)≤x∧(x:Int)≤8:=by have:=Ck.1 hw;omega
 have hca:¬c=a:=by omega
 have hlo:=hx8.1;have hhi:=hx8.2;have HW:=Hd hw;have HC:=Hd h;clear hx8 hw h;go_enter Tryz.func264,Tryz.ntmps264;go_wp2_with (go_at_call 95;refine(K2 x _).mono ?_;rw [HW.o];rintro e w' ⟨rfl,rfl⟩);refine HC.o.mono ?_;rintro e w' ⟨⟨v,rfl⟩,hR⟩;have HR:=Hd hR;clear hR hF;go_wp2;exact HR.o
def D6:List UInt8→Nat
 | []=>0
 |c::l=>c.toNat+256*D6 l
theorem U0(l:List UInt8)(c:UInt8):D6 (l++ [c])=D6 l+c.toNat*2^(8*l.length):=by
 induction l with
 |nil=>simp [D6]
 |cons d l ih=>
  simp only [List.cons_append,D6,ih,Atp];rw [show 8*(l.length+1)=8*l.length+8 by omega,Nat.pow_add,Nat.mul_add,show(2:Nat)^8=256 by rfl];rw [Nat.mul_comm (2^(8*l.length)) 256,Nat.mul_left_comm];omega
theorem Aba(l:List UInt8):D6 l<2^(8*l.length):=by
 induction l with
 |nil=>simp [D6]
 |cons d l ih=>
  have:=d.toNat_lt;rw [D6,Atp,show 8*(l.length+1)=8*l.length+8 by omega,Nat.pow_add,show(2:Nat)^8=256 by rfl];omega
theorem Apq(u c:Nat)(k:Nat)(hu:u<2^(8*k)):u|||(c<<<(8*k))=u+c*2^(8*k):=by
 rw [Nat.or_comm,←Nat.shiftLeft_add_eq_or_of_lt hu,Nat.shiftLeft_eq,Nat.add_comm]
theorem B8(n:Int)(h:0≤n∧n≤18446744073709551615):IntKind.u64.wrap n=n:=by
 rw [IntKind.wrap_u64];omega
theorem Asn(u c k:Nat)(hk:k<8)(hu:u<2^(8*k))(hc:c<256):bits .or .u64 (u:Int) (IntKind.u64.wrap (IntKind.u64.wrap (c:Int)*2^(8*k)))=((u+c*2^(8*k):Nat):Int):=by
 have hp:2^(8*k)≤2^56:=Nat.pow_le_pow_right (by omega) (by omega);have h1:c*2^(8*k)≤255*2^56:=Nat.mul_le_mul (by omega) hp;have e1:IntKind.u64.wrap (c:Int)=c:=B8 _ (by omega);have e2:(c:Int)*2^(8*k)=((c*2^(8*k):Nat):Int):=by simp
 rw [e1,e2,B8 _ (by omega)];rw [u64_or_nat _ _ (by omega) (by omega),←Apq u c k hu,Nat.shiftLeft_eq]
theorem Agz(A:Option Addr)(n c ub:Nat)(l:List UInt8)(w:World)(hl:Cw w A n l)(hn:n≤8)(hu:Af w ub 22 #[Aa Ac 0])(hne:∀ad,A=some ad→ad.block≠ub):
  Calls Tryz.prog 265 #[.slice A n c,.pointer (some ⟨ub,0,none⟩)] w fun e w'=>(∃v:Int,e= .returned (Aa Ab v))∧e= .returned (Aa Ab 0)∧Af w' ub 22 #[Aa Ac (D6 l)]∧Fr (fun k=>k=ub) w w':=by
 have HL:=Hd hl;have HU:=Hd hu;have HN:=Hd hne;clear hl hu hne;go_enter Tryz.func265,Tryz.ntmps265;go_wp2;go_loopw [8] (fun i wr=>∃k:Nat,k≤n∧i= Aa Ab k∧Af wr ub 22 #[Aa Ac (D6 (l.take k))]∧Cw wr A n l∧Fr (fun k=>k=ub) w wr) (fun i _=>n-(intOf i).toNat)
 case atStart=>exact⟨0,by omega,rfl,HU.o,HL.o,Fr.refl _ _⟩
 case round=>
  obtain⟨k,hk,rfl,hU,hL,hf⟩:=hrel;by_cases hlt:k<n
  ·obtain⟨b,off,rfl,hkl,c0⟩:=Kk hL hlt;have u0:wr.cell? ⟨ub,0,none⟩=some (Aa Ac (D6 (l.take k))):=hU.cell 0;have f0:=hU.frozen 0;have HU:=Hd hU;have HL:=Hd hL;have HF:=Hd hf;clear hU hL hf;have e1:=Asn (D6 (l.take k)) l[k].toNat k (by omega) (by have:=Aba (l.take k);rwa [List.length_take,Nat.min_eq_left (by omega)] at this) l[k].toNat_lt;have e2:D6 (l.take k)+l[k].toNat*2^(8*k)=D6 (l.take (k+1)):=by
    rw [List.take_succ_eq_append_getElem hkl,U0,List.length_take,Nat.min_eq_left (by omega)]
   rw [e2] at e1;have E1:=Hd e1;clear e1 e2;go_wp2;go_region;rw [E1.o];have hS:Fr (fun k=>k=ub) w ((wr.setCell ⟨ub,0,none⟩ (Aa Ac (D6 (l.take (k+1))))).drew):=(Fr.setCell (S:=fun k=>k=ub) HF.o (fun _=>rfl) _).drew;have hB:Af ((wr.setCell ⟨ub,0,none⟩ (Aa Ac (D6 (l.take (k+1))))).drew) ub 22 #[Aa Ac (D6 (l.take (k+1)))]:=(HU.o.set_ 0 (Aa Ac (D6 (l.take (k+1)))));have hI:Cw ((wr.setCell ⟨ub,0,none⟩ (Aa Ac (D6 (l.take (k+1))))).drew) (some ⟨b,off,none⟩) n l:=(HL.o.fr (S:=fun k=>k=ub) (Fr.setCell (S:=fun k=>k=ub) (Fr.refl _ _) (fun _=>rfl) _).drew (HN.o));have HE:=Hd (And.intro hS (And.intro hB hI));clear hS hB hI;go_wp2;go_roundw
   case rel=>exact⟨k+1,by omega,by go_num,HE.o.2.1,HE.o.2.2,HE.o.1⟩
   case measure=>simp [intOf];omega
  ·obtain rfl:k=n:=by omega
   rw [Att (by rw [hL.1];exact Ath _)] at hU;have HU:=Hd hU;have HF:=Hd hf;clear hU hL hf;go_wp2;go_ret;exact⟨⟨0,rfl⟩,rfl,HU.o,HF.o⟩
def loadU(l:List UInt8)(a w:Int):Nat:=if Av w=true∧0≤a∧a+w≤l.length then D6 ((l.drop a.toNat).take w.toNat) else 0
theorem Agy(l:List UInt8)(a w:Int):(∃k x:Nat,a=k∧w=x∧Av (x:Int)=true∧k+x≤l.length∧1≤x∧x≤8∧E7 l.length a w=0∧loadU l a w=D6 ((l.drop k).take x))∨(E7 l.length a w≠0∧loadU l a w=0∧¬(Av w=true∧0≤a∧a+w≤l.length)):=by
 by_cases h:Av w=true∧0≤a∧a+w≤l.length
 ·obtain⟨h1,h2,h3⟩:=h;have h4:=Ck.1 h1;obtain⟨k,rfl⟩:=Int.eq_ofNat_of_zero_le h2;obtain⟨x,rfl⟩:=Int.eq_ofNat_of_zero_le (a:=w) (by omega);exact .inl ⟨k,x,rfl,rfl,h1,by omega,by omega,by omega,by simp only [E7,h1,if_true];exact if_pos ⟨h2,h3⟩,by unfold loadU;rw [if_pos ⟨h1,h2,h3⟩];rfl⟩
 ·refine .inr ⟨?_,if_neg h,h⟩;intro e;unfold E7 at e;split at e
  ·rename_i h1;split at e
   ·rename_i h2;exact h ⟨h1,h2⟩
   ·cases e
  ·cases e
theorem O9{w:World}{A:Option Addr}{n k x:Nat}{l:List UInt8}(h:Cw w A n l)(hk:k+x≤n):Cw w (A.map fun p=>p.add k) x ((l.drop k).take x):=by
 have h1:=(h.cut1 Dk (k:=k)).take Dk (k:=x) (by omega);simpa [Nat.mul_one] using h1
theorem Aj7{A:Option Addr}{k:Nat}{ad:Addr}(h:(A.map fun p=>p.add k)=some ad):∃a,A=some a∧ad.block=a.block:=by
 cases A with
 |none=>cases h
 |some a=>
  injection h with h
  subst h;exact⟨a,rfl,by show(a.add k).block=_;unfold Addr.add;split <;>rfl⟩
theorem Jz(A:Option Addr)(n c:Nat)(a x:Int)(l:List UInt8)(w:World)(hl:Cw w A n l)(hc:n≤c)(hn:n≤9223372036854775807):
  Calls Tryz.prog 167 #[.slice A n c,Aa Ab a,Aa Ab x] w fun e w'=>e= .returned (.tuple #[Aa Ac (loadU l a x),Aa Ab (E7 n a x)])∧Below w.heap.size w w':=by
 have hlen:=hl.1;subst hlen;rcases Agy l a x with⟨k,y,rfl,rfl,h1,h2,h3,h4,e1,e2⟩|⟨e1,e2,e3⟩
 ·rw [e1,e2];have HL:=Hd hl;have HW:=Hd h1;have H2:=Hd h2;clear hl e1 e2 h1;go_enter Tryz.func167,Tryz.ntmps167;go_wp2_with fail;refine(Ahq A l.length c k y 265 #[.pointer (some ⟨w.heap.size,0,none⟩)] _ (fun e w'=>e= .returned (Aa Ab 0)∧Af w' w.heap.size 22 #[Aa Ac (D6 ((l.drop k).take y))]∧Fr (fun k=>k=w.heap.size) (w.alloc (.cells #[Aa Ac 0] 22)) w') HW.o H2.o hc hn Tryz.call265
   (Agz _ y _ w.heap.size _ _ (O9 (HL.o.alloc _) H2.o) h4 (Af.new w _ _) (fun ad h=>?_))).mono ?_
  ·obtain⟨a',h',e⟩:=Aj7 h;obtain⟨b',off',e',hb'⟩:=HL.o.some_ Dk (by omega) (by have:=H2.o;omega);rw [h'] at e';injection e' with e'
   subst e';show ad.block≠w.heap.size;rw [e];exact Nat.ne_of_lt hb'
  ·rintro e w2 ⟨rfl,hB,hf⟩;have u0:w2.cell? ⟨w.heap.size,0,none⟩=some (Aa Ac (D6 ((l.drop k).take y))):=hB.cell 0;have f0:=hB.frozen 0;have HB:=Hd hB;have HF:=Hd hf;clear hB hf;go_wp2;refine bodyPost_ret (v:= .tuple #[Aa Ac (D6 ((l.drop k).take y)),Aa Ab 0]) (by simp [results,Tryz.results167,go_sem,u0]) rfl ⟨rfl,?_⟩;refine Bs ((Below.refl _ _).alloc (Ath _) _) (Fr.setCell (S:=fun k=>k=w.heap.size) HF.o (fun _=>rfl) _) ?_;rintro k' rfl;exact Ath _
 ·rw [e2];have HE:=Hd e1;clear hl e1 e2 e3;go_enter Tryz.func167,Tryz.ntmps167;go_wp2_with fail;refine(Ali A l.length c a x _ _ HE.o hn).mono ?_;rintro e w' ⟨rfl,rfl⟩;go_wp2;refine bodyPost_ret (v:= .tuple #[Aa Ac 0,Aa Ab (E7 l.length a x)]) (by simp [results,Tryz.results167,go_sem]) rfl ⟨rfl,?_⟩;exact(Below.refl _ _).alloc (Ath _) _
def Kr:Array Value:=(Aov.flatMap fun r=>[Aa Ab r.1,Aa Ab r.2.1,Aa Ab r.2.2]).toArray
def Ahh:Array Value:=Array.replicate 111 (Aa Ab 0)
theorem Asu:(Tryz.prog.info? 303).map (fun i=>(i.zero,i.size))=some (some (Value.agg Ahh),111):=by kernel_rfl
theorem Acq{P:Program}{o:Oper}{a:Act}{next:Act→World→Prop}{Q:Exit→Act→World→Prop}{r:Result Unit}{w':World}(h:r= .ok () w')(hk:next (a.put o.dst undef) w'):
  o.upon P a next Q (r.andThen fun _ w'=> .ok .skip w'):=by subst h;exact hk
theorem Sz(w:World):Calls Tryz.prog 266 #[] w fun e w'=>e= .returned (.agg Kr)∧Below w.heap.size w w':=by
 have hz:=(zero_of_info Asu).1;have hsz:Ahh.size=111:=rfl;go_enter Tryz.func266,Tryz.ntmps266;go_wp2;refine Acq (w':=w.alloc (.cells Kr 303)) ?_ ?_
 ·refine Eq.trans ?_ (run_storeCells_new (P:=Tryz.prog) w 303 Ahh Kr (by kernel_rfl) (by kernel_rfl) (by kernel_rfl))
  kernel_rfl
 ·have hld:=run_loadVar_new (P:=Tryz.prog) w 303 Kr 37 221 Tryz.underlying303 (by kernel_rfl);clear hz hsz;go_wp2;refine bodyPost_ret (v:= .agg Kr) ?_ rfl ⟨rfl,(Below.refl _ _).alloc (Ath _) _⟩;refine results_cell_row (fn:=Tryz.f266) rfl _ _ w.heap.size 303 Kr (0,0) _ ?_ (heap_alloc_last w _) Tryz.underlying303 rfl (by kernel_rfl);rfl
def Kp(r:Int×Int×Int):Value:= .agg #[Aa Ab r.1,Aa Ab r.2.1,Aa Ab r.2.2]
theorem Alc{t:Int}(ht:Kv t=true):∀w,(Instr.index 303 (.agg Kr) (Aa Ab t)).run Tryz.prog w= .ok (Kp (Fz t)) w:=by
 have h:∀n:Fin 37,∀w,(Instr.index 303 (.agg Kr) (Aa Ab ((n.val:Nat):Int))).run Tryz.prog w= .ok (Kp (Fz ((n.val:Nat):Int))) w:=by
  intro n;rcases n with⟨n,hn⟩
  have:n=0∨n=1∨n=2∨n=3∨n=4∨n=5∨n=6∨n=7∨n=8∨n=9∨n=10∨n=11∨n=12∨n=13∨n=14∨n=15∨n=16∨n=17∨n=18∨n=19∨n=20∨n=21∨n=22∨n=23∨n=24∨n=25∨n=26∨n=27∨n=28∨n=29∨n=30∨n=31∨n=32∨n=33∨n=34∨n=35∨n=36:=by omega
  rcases this with rfl|rfl|rfl|rfl|rfl|rfl|rfl|rfl|rfl|rfl|rfl|rfl|rfl|rfl|rfl|rfl|rfl|rfl|rfl|rfl|rfl|rfl|rfl|rfl|rfl|rfl|rfl|rfl|rfl|rfl|rfl|rfl|rfl|rfl|rfl|rfl|rfl
  all_goals
   intro w
   kernel_rfl
 exact K6 (p:=fun t=>∀w,(Instr.index 303 (.agg Kr) (Aa Ab t)).run Tryz.prog w= .ok (Kp (Fz t)) w) h ht
theorem An9(t:Int)(w:World):Calls Tryz.prog 168 #[Aa Ab t] w fun e w'=>e= .returned (Kp (Fz t))∧Below w.heap.size w w':=by
 cases ht:Kv t with
 |true=>
  have hb:=F9.1 ht;have hb0:=hb.1;have hb1:=hb.2;have hidx:=Alc ht;have HR:=Hd (show True from trivial);obtain⟨r,hr⟩:∃r,Fz t=r:=⟨_,rfl⟩;obtain⟨r0,r1,r2⟩:=r;rw [hr] at hidx⊢;unfold Kp at hidx⊢;clear hb hr ht;go_enter Tryz.func168,Tryz.ntmps168;go_wp2_with fail;go_at_call 266;refine(Sz _).mono ?_;rintro e w1 ⟨rfl,hb⟩;have HK:=Hd ((Af.new w 221 #[Aa Ab 0,Aa Ab 0,Aa Ab 0]).pure hb);have HB:=Hd (B6 ((Below.refl w.heap.size w).alloc (Ath _) _) hb);have c0:=(HK.o.cell 0).trans (show _=some (Aa Ab 0) from rfl);have c1:=(HK.o.cell 1).trans (show _=some (Aa Ab 0) from rfl);have c2:=(HK.o.cell 2).trans (show _=some (Aa Ab 0) from rfl);have f0:=HK.o.frozen 0;have f1:=HK.o.frozen 1;have f2:=HK.o.frozen 2;clear hb;go_wp2;refine bodyPost_ret (v:= .agg #[Aa Ab r0,Aa Ab r1,Aa Ab r2]) (by simp [results,Tryz.results168,go_sem,c0,c1,c2]) rfl ⟨rfl,?_⟩;exact((HB.o.setCell (Ath _) _).setCell (Ath _) _).setCell (Ath _) _
 |false=>
  rw [Afc ht];have hb:t<0∨37≤t:=by
   have:¬(0≤t∧t<37):=by rw [←F9,ht];simp
   omega
  clear ht;rcases hb with hb|hb
  ·go_enter Tryz.func168,Tryz.ntmps168;go_wp2;refine bodyPost_ret (v:=Kp (0,0,0)) (by simp [results,Tryz.results168,go_sem,Kp]) rfl ⟨rfl,?_⟩;exact(Below.refl _ _).alloc (Ath _) _
  ·have h0:¬t<0:=by omega
   go_enter Tryz.func168,Tryz.ntmps168;go_wp2;refine bodyPost_ret (v:=Kp (0,0,0)) (by simp [results,Tryz.results168,go_sem,Kp]) rfl ⟨rfl,?_⟩;exact(Below.refl _ _).alloc (Ath _) _
theorem Wu(a b c:Int)(w:World):(Instr.field 221 (.agg #[Aa Ab a,Aa Ab b,Aa Ab c]) 0).run Tryz.prog w= .ok (Aa Ab a) w:=by kernel_rfl
theorem Wv(a b c:Int)(w:World):(Instr.field 221 (.agg #[Aa Ab a,Aa Ab b,Aa Ab c]) 1).run Tryz.prog w= .ok (Aa Ab b) w:=by kernel_rfl
theorem Ww(a b c:Int)(w:World):(Instr.field 221 (.agg #[Aa Ab a,Aa Ab b,Aa Ab c]) 2).run Tryz.prog w= .ok (Aa Ab c) w:=by kernel_rfl
theorem Ru(t r0 r1 r2:Int)(w:World)(h:Fz t=(r0,r1,r2)):Calls Tryz.prog 168 #[Aa Ab t] w fun e w'=>e= .returned (.agg #[Aa Ab r0,Aa Ab r1,Aa Ab r2])∧Below w.heap.size w w':=by
 have:=An9 t w;rw [h] at this;exact this
theorem Gw(t:Int)(w:World):Calls Tryz.prog 111 #[Aa Ab t] w fun e w'=>e= .returned (.bool (Be t))∧Below w.heap.size w w':=by
 unfold Be;obtain⟨r,hr⟩:∃r,Fz t=r:=⟨_,rfl⟩;obtain⟨r0,r1,r2⟩:=r;have HR:=Hd hr;rw [hr];clear hr;have hf0:=Wu;have hf1:=Wv;have hf2:=Ww;go_enter Tryz.func111,Tryz.ntmps111;go_wp2_with fail;go_at_call 168;refine(Ru t r0 r1 r2 _ HR.o).mono ?_;rintro e w1 ⟨rfl,hb⟩;have HB:=Hd hb;clear hb;go_wp2;go_ret;exact⟨rfl,HB.o⟩
theorem Ce(t:Int)(w:World):Calls Tryz.prog 90 #[Aa Ab t] w fun e w'=>e= .returned (.bool (An t))∧Below w.heap.size w w':=by
 unfold An;obtain⟨r,hr⟩:∃r,Fz t=r:=⟨_,rfl⟩;obtain⟨r0,r1,r2⟩:=r;have HR:=Hd hr;rw [hr];clear hr;have hf0:=Wu;have hf1:=Wv;have hf2:=Ww;go_enter Tryz.func90,Tryz.ntmps90;go_wp2_with fail;go_at_call 168;refine(Ru t r0 r1 r2 _ HR.o).mono ?_;rintro e w1 ⟨rfl,hb⟩;have HB:=Hd hb;clear hb;go_wp2;go_ret;exact⟨rfl,HB.o⟩
theorem Qu(t:Int)(w:World):Calls Tryz.prog 302 #[Aa Ab t] w fun e w'=>e= .returned (.tuple #[Aa Ab (F4 t),Aa Ab (Ei t),.bool (Wz t)])∧Below w.heap.size w w':=by
 unfold F4 Ei Wz;obtain⟨r,hr⟩:∃r,Fz t=r:=⟨_,rfl⟩;obtain⟨r0,r1,r2⟩:=r;have HR:=Hd hr;rw [hr];clear hr;have hf0:=Wu;have hf1:=Wv;have hf2:=Ww;go_enter Tryz.func302,Tryz.ntmps302;go_wp2_with fail;go_at_call 168;refine(Ru t r0 r1 r2 _ HR.o).mono ?_;rintro e w1 ⟨rfl,hb⟩;have HB:=Hd hb;clear hb;go_wp2_with fail;go_quiet (fail);go_wp2;go_ret3;exact⟨rfl,below_drewN (HB.o.alloc HB.o.size _) _⟩
theorem Anj(n:Nat):wrap64 ((2:Int)^(n % 4))=2^(n % 4):=by
 have:n % 4=0∨n % 4=1∨n % 4=2∨n % 4=3:=by omega
 rcases this with e|e|e|e <;>rw [e] <;>unfold wrap64 <;>simp only [Int.reducePow] <;>omega
theorem S0(c:UInt8)(w:World):Calls Tryz.prog 66 #[.int .u8 (c.toNat:Int)] w fun e w'=>e= .returned (.tuple #[Aa Ab (Ly c),Aa Ab (Lz c),Aa Ab (Hl c)])∧Below w.heap.size w w':=by
 have hc:=c.toNat_lt;have hq:IntKind.u8.wrap ((c.toNat:Int)/4)=(c.toNat:Int)/4:=by rw [IntKind.wrap_u8];omega
 cases hl:Be ((c.toNat:Int)/4) with
 |true=>
  have HL:=Hd hl;have h1:Ly c=(c.toNat:Int)/4:=by unfold Ly;rw [if_pos hl]
  have h2:Lz c=2^(c.toNat % 4):=by unfold Lz;rw [if_pos hl]
  have h3:Hl c=0:=by unfold Hl;rw [if_pos hl]
  rw [h1,h2,h3];clear hl h1 h2 h3;go_enter Tryz.func66,Tryz.ntmps66;go_wp2_with fail;go_at_call 111;refine(Gw _ _).mono ?_;rw [HL.o];rintro e w1 ⟨rfl,hb⟩;have HB:=Hd hb;clear hb;go_wp2;rw [Anj];go_ret3;exact⟨rfl,HB.o⟩
 |false=>
  have HL:=Hd hl;have h1:Ly c=0:=by unfold Ly;rw [hl];rfl
  have h2:Lz c=0:=by unfold Lz;rw [hl];rfl
  have h3:Hl c=20:=by unfold Hl;rw [hl];rfl
  rw [h1,h2,h3];clear hl h1 h2 h3;go_enter Tryz.func66,Tryz.ntmps66;go_wp2_with fail;go_at_call 111;refine(Gw _ _).mono ?_;rw [HL.o];rintro e w1 ⟨rfl,hb⟩;have HB:=Hd hb;clear hb;go_wp2;go_ret3;exact⟨rfl,HB.o⟩
theorem Arx{k:IntKind}{a b:Int}{v:Value}(h:a=b):Ending.returned (.tuple #[.int k a,v])= .returned (.tuple #[.int k b,v]):=by rw [h]
def sx(w u:Nat):Int:=if u<2^(8*w-1) then u else(u:Int)-2^(8*w)
def Zb(l:List UInt8)(a w:Int):Int:=if Av w=true∧0≤a∧a+w≤l.length then sx w.toNat (loadU l a w) else 0
theorem Dr(n:Int)(h: -9223372036854775808≤n∧n≤9223372036854775807):wrap64 n=n:=by unfold wrap64;omega
theorem Km(A:Option Addr)(n c:Nat)(a x:Int)(l:List UInt8)(w:World)(er:Int)(u:Nat)(hl:Cw w A n l)(hc:n≤c)(hn:n≤9223372036854775807)(h1:E7 n a x=er)(h2:loadU l a x=u):
  Calls Tryz.prog 167 #[.slice A n c,Aa Ab a,Aa Ab x] w fun e w'=>e= .returned (.tuple #[Aa Ac u,Aa Ab er])∧Below w.heap.size w w':=by
 subst h1 h2;exact Jz A n c a x l w hl hc hn
end Go.Proofs.YtgbjodnegkbfoaaGreat
