/- Parts of the proof. -/
import Derived.Test.YtejpbijeifjdeaaGreatRows
import Derived.WalkKit
import Derived.WalkSpells
import Derived.WalkLawsBesides
import Derived.Below
import Derived.Laws.OwnMore
import Derived.Deep.AppendLies
import Derived.Deep.Draws
import Derived.Laws.Rows
import Derived.Maps.AppendAt
import Derived.RegionTactic
import Derived.OwnWalk
import Derived.Deep.QuietTactic
import Derived.BigQuiet
import Derived.Lib.Hide
import Derived.Deep.Slices
import Derived.Deep.Fields
import Derived.Deep.RegionHeld3
import Derived.ChangeSame
import Derived.ProofKit
import Derived.OpenShut
import Derived.Deep.WholeRow
set_option maxHeartbeats 4000000
set_option maxRecDepth 100000
open Go.Value renaming int→Aa
open Go.IntKind renaming i64→Ab,u64→Ac
open Nat renaming le_refl→Ae,lt_of_lt_of_le→Ar
open Go.RowKit.Below renaming refl→Af
open List renaming getElem?_eq_getElem→Ai,length_take→Au,length_cons→Av,take_of_length_le→Aw
open Go.Proofs.Tryz
open Go.Proofs.Tryz renaming prog→Ad
namespace Go
abbrev Ab8(k n:Int)(u:Nat)(s:List UInt8)(A:Option Addr)(an ac:Nat)(B:Option Addr)(bn bc:Nat):Array Value:=#[.int .i64 k,.int .i64 n,.int .u64 (u:Int),.string ⟨s.toArray⟩,.slice A an ac,.slice B bn bc]
abbrev Ab9(p q t v:Int):Array Value:=#[.int .i64 p,.int .i64 q,.int .i64 t,.int .i64 v]
abbrev Aca(b:Nat):Value:=.pointer (some ⟨b,0,none⟩)
abbrev Ab5(v:Value)(w:World)(e:Ending)(w':World):Prop:=e= .returned v∧RowKit.Below w.heap.size w w'
abbrev Ab6(v:Value)(w:World)(e:Ending)(w':World):Prop:=e= .returned v∧w=w'
theorem Hd{p:Prop}(h:p):RowKit.Hid p:=Lib.hid h
theorem RowKit.Hid.o{p:Prop}(h:RowKit.Hid p):p:=h.out
end Go
namespace Go.Acc
open Go.RowKit Go.ChangeShapes Go.WideShapes Go.Deep
variable {B c k base e size n:Nat}{p:Addr}{u v:Value}{w:World}{xs:List Value}{ops:Array Oper}{rest:List Oper}{o:Oper}{a:Act}{Q:Exit→Act→World→Prop}
theorem Iv(b off j:Nat):(⟨b,off,none⟩:Addr).add j=⟨b,off+j,none⟩:=by
 unfold Addr.add;split <;>simp_all
def Rd(w:World)(A:Option Addr)(xs:List Value):Prop:=
 ∀j u,xs[j]?=some u→∃b off,A=some ⟨b,off,none⟩∧w.cell? ⟨b,off+j,none⟩=some u
structure Fr(S:Nat→Prop)(w w':World):Prop where
 os:w'.os=w.os
 tape:w'.tape=w.tape
 output:w'.output=w.output
 size:w.heap.size≤w'.heap.size
 block:∀k,k<w.heap.size→¬S k→w'.heap[k]?=w.heap[k]?
section
variable {w w' w'':World} {S T:Nat→Prop} {A:Option Addr} {xs ys:List Value}
theorem Fr.refl(S:Nat→Prop)(w:World):Fr S w w:=⟨rfl,rfl,rfl,Ae _,fun _ _ _=>rfl⟩
theorem Fr.trans(h:Fr S w w')(k:Fr T w' w'')(hT:∀i,i<w.heap.size→T i→S i):Fr S w w'':=
 ⟨k.os.trans h.os,k.tape.trans h.tape,k.output.trans h.output,Nat.le_trans h.size k.size,
  fun i hi hs=>(k.block i (Ar hi h.size) (fun ht=>hs (hT i hi ht))).trans (h.block i hi hs)⟩
theorem Fr.mono(h:Fr S w w')(hT:∀i,i<w.heap.size→S i→T i):Fr T w w':=
 ⟨h.os,h.tape,h.output,h.size,fun i hi hs=>h.block i hi (fun hS=>hs (hT i hi hS))⟩
theorem Fr.of_below(h:Below w.heap.size w w')(S:Nat→Prop):Fr S w w':=⟨h.os,h.tape,h.output,h.size,fun i hi _=>h.block i hi⟩
theorem Fr.below(h:Fr S w w')(hS:∀i,i<w.heap.size→¬S i):Below w.heap.size w w':=⟨h.os,h.tape,h.output,h.size,fun i hi=>h.block i hi (hS i hi)⟩
theorem Fr.belowB(h:Fr S w w')(hS:∀i,i<B→¬S i)(hB:B≤w.heap.size):Below B w w':=⟨h.os,h.tape,h.output,h.size,fun i hi=>h.block i (by omega) (hS i hi)⟩
theorem Fr.of_grown{row:Option Nat}(h:w.grownBy w' row):Fr (fun k=>some k=row) w w':=⟨h.os,h.tape,h.output,h.size,fun i hi hs=>h.block i hi hs⟩
theorem Fr.drew(h:Fr S w w'):Fr S w w'.drew:=⟨h.os,h.tape,h.output,h.size,h.block⟩
theorem Fr.drewN(h:Fr S w w')(n:Nat):Fr S w (w'.drewN n):=⟨h.os,h.tape,h.output,h.size,h.block⟩
theorem Fr.alloc(h:Fr S w w')(o:Obj):Fr S w (w'.alloc o):=
 ⟨h.os,h.tape,h.output,Nat.le_trans h.size (by simp),fun i hi hs=>(Below.heap_alloc w' o i (Ar hi h.size)).trans (h.block i hi hs)⟩
theorem Fr.setCell(h:Fr S w w')(hp:p.block<w.heap.size→S p.block)(u:Value):Fr S w (w'.setCell p u):=
 ⟨h.os,h.tape,h.output,by simpa [World.setCell] using h.size,fun i hi hs=>(Below.heap_setCell w' p u i (by
  rintro rfl;exact hs (hp hi))).trans (h.block i hi hs)⟩
theorem Fr.cell(h:Fr S w w')(hp:p.block<w.heap.size)(hs:¬S p.block):w'.cell? p=w.cell? p:=World.cell?_of_block (w:=w) (h.block p.block hp hs)
theorem Fr.frozen(h:Fr S w w')(hp:p.block<w.heap.size)(hs:¬S p.block):w'.frozen? p=w.frozen? p:=World.frozen?_of_block (w:=w) (h.block p.block hp hs)
theorem Bu(h:w.cell? p=some u):p.block<w.heap.size:=World.block_lt_of_cell? w p h
theorem Ba(hb:Below w.heap.size w w')(h:w.cell? p=some u):w'.cell? p=some u:=(hb.cell (Bu h)).trans h
theorem Cq(hb:Fr S w w')(h:w.cell? p=some u)(hs:¬S p.block):w'.cell? p=some u:=(hb.cell (Bu h) hs).trans h
theorem B5(h:Below w.heap.size w w')(k:Below w'.heap.size w' w''):Below w.heap.size w w'':=h.trans (k.mono h.size)
theorem A6{a w':World}(h:Below B a w)(k:Below w.heap.size w w')(hB:B≤a.heap.size:=by exact Nat.le_refl _):Below B a w':=h.trans (k.mono (Nat.le_trans hB h.size))
theorem Rd.nil(w:World)(A:Option Addr):Rd w A []:=fun j u h=>by simp at h
theorem Rd.keep(h:Rd w A xs)(hk:∀p u,w.cell? p=some u→(∀ad,A=some ad→p.block=ad.block)→w'.cell? p=some u):Rd w' A xs:=by
 intro j u hu;obtain⟨b,off,rfl,hc⟩:=h j u hu;exact⟨b,off,rfl,hk _ _ hc (fun ad had=>by injection had with had;subst had;rfl)⟩
theorem Rd.pure(h:Rd w A xs)(hb:Below w.heap.size w w'):Rd w' A xs:=h.keep fun _ _ hc _=>Ba hb hc
theorem Rd.fr(h:Rd w A xs)(hb:Fr S w w')(hs:∀ad,A=some ad→¬S ad.block):Rd w' A xs:=by
 intro j u hu;obtain⟨b,off,rfl,hc⟩:=h j u hu;exact⟨b,off,rfl,Cq hb hc (hs ⟨b,off,none⟩ rfl)⟩
theorem Rd.drew(h:Rd w A xs):Rd w.drew A xs:=h
theorem Rd.drewN(h:Rd w A xs)(k:Nat):Rd (w.drewN k) A xs:=h
theorem Rd.alloc(h:Rd w A xs)(o:Obj):Rd (w.alloc o) A xs:=h.pure ((Af _ _).alloc (Ae _) o)
theorem Rd.at_{j:Nat}(h:Rd w A xs)(hj:j<xs.length):∃b off,A=some ⟨b,off,none⟩∧w.cell? ⟨b,off+j,none⟩=some xs[j]:=h j _ (Ai hj)
theorem Rd.lt(h:Rd w A xs)(hn:0<xs.length):∃b off,A=some ⟨b,off,none⟩∧b<w.heap.size:=by
 obtain⟨b,off,e,hc⟩:=h.at_ hn;exact⟨b,off,e,Bu hc⟩
theorem Rd.take(h:Rd w A xs)(n:Nat):Rd w A (xs.take n):=by
 intro j u hu;rw [List.getElem?_take] at hu;split at hu
 ·exact h j u hu
 ·cases hu
theorem Rd.drop(h:Rd w A xs)(n:Nat)(hc:c=k→xs.length≤n):Rd w (if c=k then A else A.map (·.add n)) (xs.drop n):=by
 intro j u hu;rw [List.getElem?_drop] at hu;have hl:=(List.getElem?_eq_some_iff.1 hu).1;rw [if_neg (by intro e;have:=hc e;omega)];obtain⟨b,off,rfl,hcc⟩:=h _ u hu;exact⟨b,off+n,by simp [Iv],by rw [Nat.add_assoc];exact hcc⟩
theorem Rd.cells{b off:Nat}(h:Rd w (some ⟨b,off,none⟩) xs):∀j u,xs[j]?=some u→w.cell? ((⟨b,off,none⟩:Addr).add j)=some u:=by
 intro j u hu;obtain⟨b',off',e,hc⟩:=h j u hu;injection e with e
 injection e with e1 e2
 subst e1 e2;rw [Iv];exact hc
theorem Rd.of_own(h:w.ownsRow base e size (.slice A n c) n xs):Rd w A xs:=by
 intro j u hu;rcases h.2 with⟨hv,rfl⟩|⟨g,cap,cur,hv,hb,hg,hnc,hcm,hcs,htake⟩
 ·have:=h.1;simp at this;subst this;simp at hu
 ·injection hv with hA hn hc
  subst hA;refine⟨g,0,rfl,?_⟩;have:=h.cells (g:=g) rfl j u hu
  rwa [Iv] at this
theorem Kv{ad:Addr}(h:w.ownsRow base e size (.slice (some ad) n c) n xs)(j:Nat):w.frozen? ⟨ad.block,j,none⟩=false:=by
 rcases h.2 with⟨hv,_⟩|⟨g,cap,cur,hv,hb,hg,_⟩
 ·cases hv
 ·injection hv with hA
  injection hA with hA
  subst hA;exact frozen_of_row w g j cur e hg
theorem kH{base':Nat}(h:w.ownsRow base e size v n xs)(hb:base'≤base):w.ownsRow base' e size v n xs:=by
 refine⟨h.1,?_⟩;rcases h.2 with hn|⟨g,cap,cur,rfl,hbg,rest⟩
 ·exact .inl hn
 ·exact .inr ⟨g,cap,cur,rfl,Nat.le_trans hb hbg,rest⟩
theorem sR(h:w.ownsRow base e size v n xs)(hb:Below w.heap.size w w'):w'.ownsRow base e size v n xs:=
 h.kept (row:=none) ⟨hb.os,hb.tape,hb.output,hb.size,fun k hk _=>hb.block k hk⟩ (by cases v.ownBlock <;>simp)
theorem zV(h:w.ownsRow base e size v n xs)(hb:Fr S w w')(hs:∀g,v.ownBlock=some g→¬S g):w'.ownsRow base e size v n xs:=by
 refine⟨h.1,?_⟩;rcases h.2 with hn|⟨g,cap,cur,rfl,hbg,hg,rest⟩
 ·exact .inl hn
 ·exact .inr ⟨g,cap,cur,rfl,hbg,by rw [hb.block g (Array.getElem?_eq_some_iff.1 hg).1 (hs g rfl)];exact hg,rest⟩
theorem sV(h:w.ownsRow base e size (.slice A n c) n xs)(hk:k≤n)(hn:A≠none):w.ownsRow base e size (.slice A k c) k (xs.take (k*size)):=by
 rcases h.2 with⟨i,_⟩|⟨g,j,b,i,l,m,o,d,f,a⟩
 ·injection i with hA
  exact absurd hA hn
 ·injection i with hA _ hc
  subst hA hc;refine⟨?_,.inr ⟨g,c,b,rfl,l,m,by omega,d,f,?_⟩⟩
  ·rw [Au,h.1];have:=Nat.mul_le_mul_right size hk;omega
  ·rw [←a,List.take_take]
   congr 1
   have:=Nat.mul_le_mul_right size hk;omega
end
theorem Cf{N:Nat}{S:Nat→Prop}{W W':World}(hb:Below N w W)(hf:Fr S W W')(hS:∀k,S k→N≤k)(hN:N≤w.heap.size:=by exact Nat.le_refl _):Below N w W':=
 hb.trans (hf.belowB (fun k hk e=>by have:=hS k e;omega) (Nat.le_trans hN hb.size))
def Bb(w:World)(g:Nat)(t:TypeId)(cs:Array Value):Prop:=w.heap[g]?=some (.cells cs t (0,0))
section
variable {w w':World} {S:Nat→Prop} {g:Nat} {t:TypeId} {cs:Array Value}
theorem Bb.lt(h:Bb w g t cs):g<w.heap.size:=by
 rcases Nat.lt_or_ge g w.heap.size with hlt|hge
 ·exact hlt
 ·unfold Bb at h;rw [Array.getElem?_eq_none hge] at h;cases h
theorem Bb.cell(h:Bb w g t cs)(i:Nat):w.cell? ⟨g,i,none⟩=cs[i]?:=cell_of_row w g i cs t (0,0) h
theorem Bb.c2{w:World}{g:Nat}{t:TypeId}{xa xb:Value}{zs:List Value}(h:Bb w g t (List.toArray (xa::xb::zs))):w.cell? ⟨g,0,none⟩=some xa∧w.cell? ⟨g,1,none⟩=some xb:=⟨h.cell 0,h.cell 1⟩
theorem Bb.c3{w:World}{g:Nat}{t:TypeId}{xa xb xc:Value}{zs:List Value}(h:Bb w g t (List.toArray (xa::xb::xc::zs))):w.cell? ⟨g,0,none⟩=some xa∧w.cell? ⟨g,1,none⟩=some xb∧w.cell? ⟨g,2,none⟩=some xc:=⟨h.cell 0,h.cell 1,h.cell 2⟩
theorem Bb.c4{w:World}{g:Nat}{t:TypeId}{xa xb xc xd:Value}{zs:List Value}(h:Bb w g t (List.toArray (xa::xb::xc::xd::zs))):w.cell? ⟨g,0,none⟩=some xa∧w.cell? ⟨g,1,none⟩=some xb∧w.cell? ⟨g,2,none⟩=some xc∧w.cell? ⟨g,3,none⟩=some xd:=⟨h.cell 0,h.cell 1,h.cell 2,h.cell 3⟩
theorem Bb.c5{w:World}{g:Nat}{t:TypeId}{xa xb xc xd xe:Value}{zs:List Value}(h:Bb w g t (List.toArray (xa::xb::xc::xd::xe::zs))):w.cell? ⟨g,0,none⟩=some xa∧w.cell? ⟨g,1,none⟩=some xb∧w.cell? ⟨g,2,none⟩=some xc∧w.cell? ⟨g,3,none⟩=some xd∧w.cell? ⟨g,4,none⟩=some xe:=⟨h.cell 0,h.cell 1,h.cell 2,h.cell 3,h.cell 4⟩
theorem Bb.c6{w:World}{g:Nat}{t:TypeId}{xa xb xc xd xe xf:Value}{zs:List Value}(h:Bb w g t (List.toArray (xa::xb::xc::xd::xe::xf::zs))):w.cell? ⟨g,0,none⟩=some xa∧w.cell? ⟨g,1,none⟩=some xb∧w.cell? ⟨g,2,none⟩=some xc∧w.cell? ⟨g,3,none⟩=some xd∧w.cell? ⟨g,4,none⟩=some xe∧w.cell? ⟨g,5,none⟩=some xf:=⟨h.cell 0,h.cell 1,h.cell 2,h.cell 3,h.cell 4,h.cell 5⟩
theorem Bb.c9{w:World}{g:Nat}{t:TypeId}{xa xb xc xd xe xf xg xh xi:Value}{zs:List Value}(h:Bb w g t (List.toArray (xa::xb::xc::xd::xe::xf::xg::xh::xi::zs))):w.cell? ⟨g,0,none⟩=some xa∧w.cell? ⟨g,1,none⟩=some xb∧w.cell? ⟨g,2,none⟩=some xc∧w.cell? ⟨g,3,none⟩=some xd∧w.cell? ⟨g,4,none⟩=some xe∧w.cell? ⟨g,5,none⟩=some xf∧w.cell? ⟨g,6,none⟩=some xg∧w.cell? ⟨g,7,none⟩=some xh∧w.cell? ⟨g,8,none⟩=some xi:=⟨h.cell 0,h.cell 1,h.cell 2,h.cell 3,h.cell 4,h.cell 5,h.cell 6,h.cell 7,h.cell 8⟩
theorem Bb.frozen(h:Bb w g t cs)(i:Nat):w.frozen? ⟨g,i,none⟩=false:=by
 unfold Bb at h;simp [World.frozen?,h]
theorem Bb.f2{w:World}{g:Nat}{t:TypeId}{cs:Array Value}(h:Bb w g t cs):w.frozen? ⟨g,0,none⟩=false∧w.frozen? ⟨g,1,none⟩=false:=⟨h.frozen 0,h.frozen 1⟩
theorem Bb.f3{w:World}{g:Nat}{t:TypeId}{cs:Array Value}(h:Bb w g t cs):w.frozen? ⟨g,0,none⟩=false∧w.frozen? ⟨g,1,none⟩=false∧w.frozen? ⟨g,2,none⟩=false:=⟨h.frozen 0,h.frozen 1,h.frozen 2⟩
theorem Bb.f4{w:World}{g:Nat}{t:TypeId}{cs:Array Value}(h:Bb w g t cs):w.frozen? ⟨g,0,none⟩=false∧w.frozen? ⟨g,1,none⟩=false∧w.frozen? ⟨g,2,none⟩=false∧w.frozen? ⟨g,3,none⟩=false:=⟨h.frozen 0,h.frozen 1,h.frozen 2,h.frozen 3⟩
theorem Bb.f6{w:World}{g:Nat}{t:TypeId}{cs:Array Value}(h:Bb w g t cs):w.frozen? ⟨g,0,none⟩=false∧w.frozen? ⟨g,1,none⟩=false∧w.frozen? ⟨g,2,none⟩=false∧w.frozen? ⟨g,3,none⟩=false∧w.frozen? ⟨g,4,none⟩=false∧w.frozen? ⟨g,5,none⟩=false:=⟨h.frozen 0,h.frozen 1,h.frozen 2,h.frozen 3,h.frozen 4,h.frozen 5⟩
theorem Bb.f9{w:World}{g:Nat}{t:TypeId}{cs:Array Value}(h:Bb w g t cs):w.frozen? ⟨g,0,none⟩=false∧w.frozen? ⟨g,1,none⟩=false∧w.frozen? ⟨g,2,none⟩=false∧w.frozen? ⟨g,3,none⟩=false∧w.frozen? ⟨g,4,none⟩=false∧w.frozen? ⟨g,5,none⟩=false∧w.frozen? ⟨g,6,none⟩=false∧w.frozen? ⟨g,7,none⟩=false∧w.frozen? ⟨g,8,none⟩=false:=⟨h.frozen 0,h.frozen 1,h.frozen 2,h.frozen 3,h.frozen 4,h.frozen 5,h.frozen 6,h.frozen 7,h.frozen 8⟩
theorem Bb.new(w:World)(t:TypeId)(cs:Array Value):Bb (w.alloc (.cells cs t)) w.heap.size t cs:=heap_alloc_new w _
theorem Bb.new_{g:Nat}(h:w.heap.size=g)(t:TypeId)(cs:Array Value):Bb (w.alloc (.cells cs t)) g t cs:=by subst h;exact Bb.new w t cs
theorem Bb.drew(h:Bb w g t cs):Bb w.drew g t cs:=h
theorem Bb.alloc(h:Bb w g t cs)(o:Obj):Bb (w.alloc o) g t cs:=(Below.heap_alloc w o g h.lt).trans h
theorem Bb.set_(h:Bb w g t cs)(i:Nat)(u:Value):Bb (w.setCell ⟨g,i,none⟩ u) g t (cs.setIfInBounds i u):=by
 unfold Bb at h⊢;simp [World.setCell,Array.getElem?_modify,h]
theorem Bb.far(h:Bb w g t cs)(hp:g≠p.block)(u:Value):Bb (w.setCell p u) g t cs:=(Below.heap_setCell w p u g hp).trans h
theorem Bb.pure(h:Bb w g t cs)(hb:Below w.heap.size w w'):Bb w' g t cs:=(hb.block g h.lt).trans h
theorem Bb.fr(h:Bb w g t cs)(hb:Fr S w w')(hg:¬S g):Bb w' g t cs:=(hb.block g h.lt hg).trans h
theorem Bb.ne_{g':Nat}{t':TypeId}{cs':Array Value}(h:Bb w g t cs)(h':Bb w g' t' cs')(hne:t≠t'):g≠g':=by
 rintro rfl;unfold Bb at h h';rw [h] at h';injection h' with h'
 injection h' with _ ht
 exact hne ht
theorem H8(h:w.ownsRow base e size v n xs)(hg:Bb w g t cs)(hne:e≠t):v.ownBlock≠some g:=by
 rcases h.2 with⟨rfl,_⟩|⟨g',cap,cur,rfl,_,hh,_⟩
 ·simp [Value.ownBlock]
 ·intro he;have:g'=g:=by simpa [Value.ownBlock] using he
  subst this;exact Bb.ne_ (t:=e) hh hg hne rfl
end
section
variable {P:Program} (w:World)
theorem Ii(base:Nat)(t ty e:TypeId)(i:TypeInfo)(z:Value)(size bytes:Nat)(ht:P.underlying t=some (.slice e))(hi:P.info? e=some i)(hz:i.zero=some z)
  (hsize:i.size=size) (hby:i.bytes=bytes) (hzs:z.cells.size=size) (hsz:0<size)
  (v:Value) (n:Nat) (xs:List Value) (hown:w.ownsRow base e size v n xs)
  (A:Option Addr) (m c:Nat) (news:List Value) (hl:news.length=m*size) (hr:Rd w A news) (h1:∀u∈news,u.oneCell'=true)
  (h63:n+m≤maxLen) (hbytes:(n+m)*bytes≤140737488355328) (hbase:base≤w.heap.size):
  ∃v' w',(Builtin.append_ #[t,t] ty #[v,.slice A m c]).run P w= .ok v' w'∧w'.ownsRow base e size v' (n+m) (xs++news)∧w.grownBy w' v.ownBlock∧
   (v'.ownBlock=v.ownBlock∨v'.ownBlock=some w.heap.size):=by
 rcases Nat.eq_zero_or_pos m with rfl|o
 ·have p:news=[]:=List.eq_nil_of_length_eq_zero (by simpa using hl);subst p;refine⟨v,w,?_,by simpa using hown,⟨rfl,rfl,rfl,Ae _,fun _ _ _=>rfl⟩,.inl rfl⟩;rcases hown.2 with⟨rfl,rfl⟩|⟨g,j,k,rfl,_,_,f,_⟩
  ·cases A <;>simp [Builtin.append_,run_underlying ht,sizeOf,typeInfo,hi,Builtin.lenOf,Builtin.firstCells,loadCells,loadCellsFrom]
  ·cases A <;>simp [Builtin.append_,run_underlying ht,sizeOf,typeInfo,hi,Builtin.lenOf,Builtin.firstCells,f,storeCells,loadCells,loadCellsFrom]
 ·have a:0<news.length:=by rw [hl];exact Nat.mul_pos o hsz
  obtain⟨b,h,rfl,_⟩:=hr.lt a;obtain⟨v',w',d,h2,h3,_,l⟩:=run_append_own_at (P:=P) w base t ty e i z size bytes ht hi hz hsize hby hzs hsz v n xs hown ⟨b,h,none⟩ m c news hl hr.cells h1 h63 hbytes hbase;exact⟨v',w',d,h2,h3,l⟩
theorem lE(hgd:Region.wanted o (yielded ops a.tmps)=true)(s x:Operand)(t:TypeId)
  (ho:o.op= .call { callee:= .builtin .append,args:=#[s,x],argTypes:=#[t,t]})
  (base:Nat) (e:TypeId) (z:Value) (size bytes:Nat) (ht:P.underlying t=some (.slice e)) (hi:(P.info? e).map (fun i=>(i.zero,i.size,i.bytes))=some (some z,size,bytes))
  (hzs:z.cells.size=size) (hsz:0<size)
  (v:Value) (n:Nat) (xs:List Value) (hs:a.eval s=v) (hown:w.ownsRow base e size v n xs)
  (A:Option Addr) (m c:Nat) (news:List Value) (hx:a.eval x= .slice A m c) (hl:news.length=m*size) (hr:Rd w A news) (h1:∀u∈news,u.oneCell'=true)
  (h63:n+m≤maxLen) (hbytes:(n+m)*bytes≤140737488355328) (hbase:base≤w.heap.size)
  (h:∀v' w',w'.ownsRow base e size v' (n+m) (xs++news)→w.grownBy w' v.ownBlock→(v'.ownBlock=v.ownBlock∨v'.ownBlock=some w.heap.size)→wpList P ops Q rest (a.put o.dst v') w'):
  wpList P ops Q (o::rest) a w:=by
 obtain⟨i,g,k,b,f⟩:=info_parts hi;refine BigFrame.wpList_want hgd fun _ hK=>?_
 obtain⟨v',w',d,h2,h3,j⟩:=Ii (P:=P) w base t o.type e i z size bytes ht g k b f hzs hsz v n xs hown A m c news hl hr h1 h63 hbytes hbase;unfold Oper.wp execOp;simp only [ho,resolve,invoke,builtin,Sem.run_bind,Sem.run_pure,Result.andThen_ok,List.map_toArray,List.map_cons,List.map_nil,hs,hx,d];exact hK _ _ (h v' w' h2 h3 j)
end
theorem T7(h:w.ownsRow base e size v n xs):∃A c,v= .slice A n c∧n≤c∧c≤maxLen∧(∀ad,A=some ad→ad=⟨ad.block,0,none⟩∧base≤ad.block∧ad.block<w.heap.size):=by
 rcases h.2 with⟨rfl,rfl⟩|⟨g,a,f,rfl,i,j,d,b,_⟩
 ·exact⟨none,0,rfl,Ae _,Nat.zero_le _,fun ad h=>by cases h⟩
 ·exact⟨_,a,rfl,d,b,fun ad h=>by injection h with h;subst h;exact⟨rfl,i,(Array.getElem?_eq_some_iff.1 j).1⟩⟩
section
variable {α:Type} {f:α→List Value} {sz:Nat}
theorem Cd(hf:∀x,(f x).length=sz)(l:List α):(l.flatMap f).length=l.length*sz:=by
 induction l with
 |nil=>simp
 |cons x l ih=>rw [List.flatMap_cons,List.length_append,hf,ih,Av,Nat.succ_mul,Nat.add_comm]
theorem Mk(hf:∀x,(f x).length=sz)(l:List α)(k:Nat):(l.take k).flatMap f=(l.flatMap f).take (k*sz):=by
 induction l generalizing k with
 |nil=>simp
 |cons x l ih=>
  cases k with
  |zero=>simp
  |succ k=>
   rw [List.take_succ_cons,List.flatMap_cons,List.flatMap_cons,ih,List.take_append,hf,Nat.succ_mul,Nat.add_sub_cancel,Aw (l:=f x) (by rw [hf];exact Nat.le_add_left _ _)]
theorem Oo(hf:∀x,(f x).length=sz)(l:List α)(k:Nat):(l.drop k).flatMap f=(l.flatMap f).drop (k*sz):=by
 induction l generalizing k with
 |nil=>simp
 |cons x l ih=>
  cases k with
  |zero=>simp
  |succ k=>
   rw [List.drop_succ_cons,List.flatMap_cons,ih,List.drop_append,hf,Nat.succ_mul,Nat.add_sub_cancel,List.drop_eq_nil_of_le (show(f x).length≤k*sz+sz by rw [hf];exact Nat.le_add_left _ _),List.nil_append]
theorem H6(hf:∀x,(f x).length=sz)(l:List α)(k j:Nat)(hk:k<l.length)(hj:j<sz):(l.flatMap f)[k*sz+j]?=(f l[k])[j]?:=by
 have h:=Oo hf l k;rw [List.drop_eq_getElem_cons hk,List.flatMap_cons] at h;rw [←List.getElem?_drop,←h,List.getElem?_append_left (by rw [hf];exact hj)]
theorem Mw(h1:∀x,∀u∈f x,u.oneCell'=true)(l:List α):∀u∈l.flatMap f,u.oneCell'=true:=by
 intro u hu;obtain⟨x,_,hx⟩:=List.mem_flatMap.1 hu;exact h1 x u hx
def Is(f:α→List Value)(w:World)(A:Option Addr)(n:Nat)(l:List α):Prop:=l.length=n∧Rd w A (l.flatMap f)
def Own(f:α→List Value)(sz:Nat)(e:TypeId)(w:World)(B:Nat)(A:Option Addr)(n c:Nat)(l:List α):Prop:=l.length=n∧w.ownsRow B e sz (.slice A n c) n (l.flatMap f)
variable {w w':World} {A:Option Addr} {n c B:Nat} {l:List α} {e:TypeId} {S:Nat→Prop}
theorem Is.pure(h:Is f w A n l)(hb:Below w.heap.size w w'):Is f w' A n l:=⟨h.1,h.2.pure hb⟩
theorem Is.fr(h:Is f w A n l)(hb:Fr S w w')(hs:∀ad,A=some ad→¬S ad.block):Is f w' A n l:=⟨h.1,h.2.fr hb hs⟩
theorem Is.drewN(h:Is f w A n l)(k:Nat):Is f (w.drewN k) A n l:=h
theorem Is.alloc(h:Is f w A n l)(o:Obj):Is f (w.alloc o) A n l:=⟨h.1,h.2.alloc o⟩
theorem Is.nil(w:World)(A:Option Addr):Is f w A 0 []:=⟨rfl,Rd.nil w A⟩
theorem Is.none_(hf:∀x,(f x).length=sz)(hz:0<sz)(h:Is f w none n l):l=[]∧n=0:=by
 cases l with
 |nil=>exact⟨rfl,h.1.symm⟩
 |cons x l=>
  have hp:0<((x::l).flatMap f).length:=by rw [Cd hf,Av,Nat.succ_mul];omega
  obtain⟨b,off,e,_⟩:=h.2.lt hp;cases e
theorem Is.some_(hf:∀x,(f x).length=sz)(hz:0<sz)(h:Is f w A n l)(hn:0<n):∃b off,A=some ⟨b,off,none⟩∧b<w.heap.size:=by
 have hp:0<(l.flatMap f).length:=by rw [Cd hf,h.1];exact Nat.mul_pos hn hz
 exact h.2.lt hp
theorem Is.at_(hf:∀x,(f x).length=sz)(hz:0<sz)(h:Is f w A n l)(hk:k<n):
  ∃b off,A=some ⟨b,off,none⟩∧∃hk:k<l.length,∀j,j<sz→w.cell? ⟨b,off+k*sz+j,none⟩=(f l[k])[j]?:=by
 obtain⟨b,off,rfl,_⟩:=h.some_ hf hz (by omega);have a:k<l.length:=by rw [h.1];exact hk
 refine⟨b,off,rfl,a,fun j hj=>?_⟩;have e:=H6 hf l k j a hj;have d:(f l[k])[j]?=some ((f l[k])[j]'(by rw [hf];exact hj)):=Ai _;rw [d] at e⊢;obtain⟨m,g,c,i⟩:=h.2 _ _ e;injection c with c;injection c with e1 e2;subst e1 e2
 rw [Nat.add_assoc];exact i
theorem Is.take(hf:∀x,(f x).length=sz)(h:Is f w A n l)(hk:k≤n):Is f w A k (l.take k):=⟨by rw [Au,h.1];omega,by rw [Mk hf];exact h.2.take _⟩
theorem Is.cut0(h:Is f w A n l)(hk:c=k)(hc:n≤c):Is f w A (n-k) (l.drop k):=by
 have:=h.1;rw [List.drop_eq_nil_of_le (by omega)];exact⟨by simp;omega,Rd.nil _ _⟩
theorem Is.cut1(hf:∀x,(f x).length=sz)(h:Is f w A n l):Is f w (A.map fun x=>x.add (k*sz)) (n-k) (l.drop k):=by
 refine⟨by rw [List.length_drop,h.1],?_⟩;rw [Oo hf];have:=h.2.drop (k*sz) (c:=1) (k:=0) (by omega);simpa using this
theorem Own.is(h:Own f sz e w B A n c l):Is f w A n l:=⟨h.1,Rd.of_own h.2⟩
theorem Own.pure(h:Own f sz e w B A n c l)(hb:Below w.heap.size w w'):Own f sz e w' B A n c l:=⟨h.1,sR h.2 hb⟩
theorem Own.fr(h:Own f sz e w B A n c l)(hb:Fr S w w')(hs:∀ad,A=some ad→¬S ad.block):Own f sz e w' B A n c l:=⟨h.1,zV h.2 hb (fun g hg=>by
 cases A with
 |none=>simp [Value.ownBlock] at hg
 |some ad=>simp [Value.ownBlock] at hg;subst hg;exact hs ad rfl)⟩
theorem Own.rebase{B':Nat}(h:Own f sz e w B A n c l)(hb:B'≤B):Own f sz e w B' A n c l:=⟨h.1,kH h.2 hb⟩
theorem Own.nil(w:World)(B:Nat):Own f sz e w B none 0 0 []:=⟨rfl,World.ownsRow_nil _ _ _ _⟩
theorem Own.cap(h:Own f sz e w B A n c l):n≤c∧c≤maxLen:=by
 obtain⟨_,_,e,h1,h2,_⟩:=T7 h.2;injection e with _ _ e
 omega
theorem Own.addr(h:Own f sz e w B A n c l):∀ad,A=some ad→ad=⟨ad.block,0,none⟩∧B≤ad.block∧ad.block<w.heap.size:=by
 obtain⟨A',_,e,_,_,h3⟩:=T7 h.2;injection e with e
 subst e;exact h3
theorem Own.take(hf:∀x,(f x).length=sz)(h:Own f sz e w B A n c l)(hk:k≤n):Own f sz e w B A k c (l.take k):=by
 refine⟨by rw [Au,h.1];omega,?_⟩;rw [Mk hf];cases A with
 |none=>
  rcases h.2.2 with⟨hv,hn⟩|⟨_,_,_,hv,_⟩
  ·injection hv with _ h1 h2
   subst hn h2;obtain rfl:k=0:=by omega
   exact⟨by simp,.inl ⟨rfl,rfl⟩⟩
  ·cases hv
 |some ad=>exact sV h.2 hk (by simp)
theorem Own.mk(hf:∀x,(f x).length=sz)(hz:0<sz)(h:w.ownsRow B e sz v n xs)(hx:xs=l.flatMap f):∃A c,v= .slice A n c∧Own f sz e w B A n c l:=by
 subst hx;have hl:=h.1;rw [Cd hf] at hl;obtain⟨A,c,rfl,_⟩:=T7 h;exact⟨A,c,rfl,Nat.eq_of_mul_eq_mul_right hz hl,h⟩
end
section
variable {α:Type} {f:α→List Value} {P:Program} (w:World)
theorem Fl(hgd:Region.wanted o (yielded ops a.tmps)=true)(s x:Operand)(t:TypeId)
  (ho:o.op= .call { callee:= .builtin .append,args:=#[s,x],argTypes:=#[t,t]})
  (e:TypeId) (z:Value) (sz bytes:Nat) (ht:P.underlying t=some (.slice e)) (hi:(P.info? e).map (fun i=>(i.zero,i.size,i.bytes))=some (some z,sz,bytes))
  (hzs:z.cells.size=sz) (hsz:0<sz) (hf:∀x,(f x).length=sz) (h1:∀x,∀u∈f x,u.oneCell'=true)
  (B:Nat) (A:Option Addr) (n c:Nat) (l:List α) (hs:a.eval s= .slice A n c) (hown:Own f sz e w B A n c l)
  (A2:Option Addr) (m d:Nat) (l2:List α) (hx:a.eval x= .slice A2 m d) (hr:Is f w A2 m l2)
  (hbytes:(n+m)*(bytes+1)≤140737488355328) (hbase:B≤w.heap.size)
  (h:∀A' c' w',Own f sz e w' B A' (n+m) c' (l++l2)→Fr (fun k=>∃ad,A=some ad∧k=ad.block) w w'→
   (A'.map (·.block)=A.map (·.block)∨A'.map (·.block)=some w.heap.size)→wpList P ops Q rest (a.put o.dst (.slice A' (n+m) c')) w'):
  wpList P ops Q (o::rest) a w:=by
 have j:(n+m)*bytes≤140737488355328:=Nat.le_trans (Nat.mul_le_mul_left _ (Nat.le_succ _)) hbytes;have p:n+m≤maxLen:=by
  have:n+m≤(n+m)*(bytes+1):=Nat.le_mul_of_pos_right _ (Nat.succ_pos _);simp only [maxLen];omega
 refine lE w hgd s x t ho B e z sz bytes ht hi hzs hsz _ n (l.flatMap f) hs hown.2 A2 m d (l2.flatMap f) hx (by rw [Cd hf,hr.1]) hr.2 (Mw h1 l2) p j hbase ?_;intro q w' h2 h3 g;obtain⟨A',c',rfl,b⟩:=Own.mk hf hsz (l:=l++l2) h2 List.flatMap_append.symm;refine h A' c' w' b ((Fr.of_grown h3).mono fun i _ hi=>?_) ?_
 ·cases A with
  |none=>simp [Value.ownBlock] at hi
  |some ad=>simp [Value.ownBlock] at hi;exact⟨ad,rfl,hi⟩
 ·cases A <;>cases A' <;>simp only [Value.ownBlock,Option.map] at g⊢ <;>exact g
end
theorem En{k:IntKind}{a b:Int}(h:a=b):Ending.returned (.int k a)= .returned (.int k b):=by rw [h]
theorem Ck{a b:Bool}(h:a=b):Ending.returned (.bool a)= .returned (.bool b):=by rw [h]
end Go.Acc
namespace Go.Acc
variable {t:Int}
def uN:List (Int×Int×Int):=
 [(1,0,0),(1,0,0),(1,0,0),(0,0,0),(2,0,0),(2,0,0),(2,0,0),(2,0,0),(0,0,0),(2,0,0),(2,0,0),(3,1,0),(3,2,0),(0,0,0),(3,4,0),(0,0,0),
 (3,1,2),(3,2,2),(0,0,0),(3,1,3),(3,2,3),(0,0,0),(3,1,4),(3,2,4),(0,0,0),(2,0,0),(1,0,0),(0,0,0),(0,0,0),(0,0,0),(0,0,0),(0,0,0),(0,0,0),(0,0,0),(0,0,0),(0,0,0),(3,26,0)]
def Aak:List Int:=[1,3,4,0,5,6,8,9,0,17,10,11,12,0,13,0,15,16,0,15,16,0,15,16,0,7,2,0,0,0,0,0,0,0,0,0,14]
def Ig(t:Int):Bool:=decide (0≤t∧t<37)
def Gb(t:Int):Int×Int×Int:=if Ig t=true then uN.getD t.toNat (0,0,0) else(0,0,0)
def Ch(t:Int):Bool:=(Gb t).1 != 0
def Bt(t:Int):Bool:=(Gb t).1==1
def Ib(t:Int):Bool:=(Gb t).1==3
def Fh(t:Int):Int:=(Gb t).2.1
def Cr(t:Int):Int:=(Gb t).2.2
def De(t:Int):Int:=if Ig t=true then Aak.getD t.toNat 0 else 0
def t37:List Int:=[0,1,2,3,4,5,6,7,8,9,10,11,12,13,14,15,16,17,18,19,20,21,22,23,24,25,26,27,28,29,30,31,32,33,34,35,36]
theorem Ez:Ig t=true↔0≤t∧t<37:=by simp [Ig]
theorem Lb{p:Int→Prop}(h:∀n:Fin 37,p ((n.val:Nat):Int))(ht:Ig t=true):p t:=by
 have ht:=Ez.1 ht;obtain⟨n,rfl⟩:=Int.eq_ofNat_of_zero_le ht.1;exact h ⟨n,by omega⟩
theorem Lc(h:Ig t=false):Gb t=(0,0,0):=by simp [Gb,h]
theorem Hv(h:Ch t=true):Ig t=true:=by
 cases e:Ig t with
 |true=>rfl
 |false=>simp [Ch,Lc e] at h
theorem Rk(h:Bt t=true):Ch t=true:=by
 unfold Bt at h;unfold Ch;rw [eq_of_beq h];rfl
def I7(c:UInt8):Int:=if Ch ((c.toNat:Int)/4)=true then(c.toNat:Int)/4 else 0
def I8(c:UInt8):Int:=if Ch ((c.toNat:Int)/4)=true then 2^(c.toNat % 4) else 0
def Fq(c:UInt8):Int:=if Ch ((c.toNat:Int)/4)=true then 0 else 20
theorem nK(h0:t≠0)(h1:t≠1)(h2:t≠2)(h3:t≠26):Bt t=false:=by
 cases e:Ig t with
 |false=>simp [Bt,Lc e]
 |true=>
  revert h0 h1 h2 h3;exact Lb (p:=fun t=>t≠0→t≠1→t≠2→t≠26→Bt t=false) (by decide) e
end Go.Acc
namespace Go.Proofs.YtejpbijeifjdeaaGreat
open Go.RowKit Go.Acc
variable {w:World}{A:Option Addr}{n k:Nat}{l:List UInt8}{t:Int}
def bc(c:UInt8):List Value:=[.int .u8 (c.toNat:Int)]
theorem C0(x:UInt8):(bc x).length=1:=rfl
theorem Q6(x:UInt8):∀u∈bc x,u.oneCell'=true:=by
 intro u hu;simp [bc] at hu;rw [hu];rfl
abbrev B4:=Is bc
abbrev Gp:=Own bc 1 5
theorem Ep(h:B4 w A n l)(hk:k<n):
  ∃b off,A=some ⟨b,off,none⟩∧∃hk:k<l.length,w.cell? ⟨b,off+k,none⟩=some (.int .u8 (l[k].toNat:Int)):=by
 obtain⟨b,off,e,hk',hc⟩:=h.at_ C0 (by omega) hk;have:=hc 0 (by omega);rw [Nat.mul_one,Nat.add_zero] at this;exact⟨b,off,e,hk',this⟩
def Br(w:Int):Bool:=decide (w=1∨w=2∨w=4∨w=8)
theorem B6{w:Int}:Br w=true↔w=1∨w=2∨w=4∨w=8:=by simp [Br]
theorem aM{w:Int}:Br w=false↔w≠1∧w≠2∧w≠4∧w≠8:=by simp [Br];
theorem K9(x:Int)(w:World):Calls Ad 58 #[Aa Ab x] w (Ab6 (.bool (Br x)) w):=by
 by_cases h1:x=1
 ·subst h1;go_enter func58,ntmps58;go_wp2;go_ret;exact⟨rfl,rfl⟩
 by_cases h2:x=2
 ·subst h2;go_enter func58,ntmps58;go_wp2;go_ret;exact⟨rfl,rfl⟩
 by_cases a:x=4
 ·subst a;go_enter func58,ntmps58;go_wp2;go_ret;exact⟨rfl,rfl⟩
 by_cases b:x=8
 ·subst b;go_enter func58,ntmps58;go_wp2;go_ret;exact⟨rfl,rfl⟩
 have H:=Hd (aM.2 ⟨h1,h2,a,b⟩);have c:(x==1)=false:=by simpa using h1
 have d:(x==2)=false:=by simpa using h2
 have e:(x==4)=false:=by simpa using a
 have f:(x==8)=false:=by simpa using b
 clear h1 h2 a b;go_enter func58,ntmps58;go_wp2;go_ret;exact⟨Ck H.o.symm,rfl⟩
theorem E4(x:Int)(w:World):Calls Ad 95 #[Aa Ab x] w (Ab6 (.bool (Br x)) w):=by
 by_cases h1:x=1
 ·subst h1;go_enter func95,ntmps95;go_wp2;go_ret;exact⟨rfl,rfl⟩
 by_cases h2:x=2
 ·subst h2;go_enter func95,ntmps95;go_wp2;go_ret;exact⟨rfl,rfl⟩
 by_cases a:x=4
 ·subst a;go_enter func95,ntmps95;go_wp2;go_ret;exact⟨rfl,rfl⟩
 by_cases b:x=8
 ·subst b;go_enter func95,ntmps95;go_wp2;go_ret;exact⟨rfl,rfl⟩
 have H:=Hd (aM.2 ⟨h1,h2,a,b⟩);have c:(x==1)=false:=by simpa using h1
 have d:(x==2)=false:=by simpa using h2
 have e:(x==4)=false:=by simpa using a
 have f:(x==8)=false:=by simpa using b
 clear h1 h2 a b;go_enter func95,ntmps95;go_wp2;go_ret;exact⟨Ck H.o.symm,rfl⟩
def Bz(n:Nat)(at_ w:Int):Int:=if Br w=true then(if 0≤at_∧at_+w≤n then 0 else 6) else 2
theorem qM(A:Option Addr)(n c:Nat)(a x:Int)(f:Value)(w:World)(h:Bz n a x≠0)(hn:n≤9223372036854775807):
  Calls Ad 247 #[.slice A n c,Aa Ab a,Aa Ab x,f] w (Ab6 (Aa Ab (Bz n a x)) w):=by
 by_cases b:Br x=true
 ·have g:=B6.1 b;have j:¬(0≤a∧a+x≤n):=by intro l;simp [Bz,b,l] at h
  have H:=Hd (show Bz n a x=6 by simp only [Bz,b,if_true,if_neg j]);have i:=Hd b;have p:1≤x:=by omega
  have m:x≤8:=by omega
  rw [H.o];by_cases h0:a<0
  ·clear h b g j;go_enter func247,ntmps247;go_wp2_with (go_at_call 58;refine(K9 x _).mono ?_;rw [i.o];rintro e k ⟨rfl,rfl⟩);go_ret;exact⟨rfl,rfl⟩
  ·have h1:(n:Int)-x<a:=by omega
   clear h b g j;go_enter func247,ntmps247;go_wp2_with (go_at_call 58;refine(K9 x _).mono ?_;rw [i.o];rintro e k ⟨rfl,rfl⟩);go_ret;exact⟨rfl,rfl⟩
 ·have d:Br x=false:=by simpa using b
  have H:=Hd (show Bz n a x=2 by simp [Bz,d]);have i:=Hd d;rw [H.o];clear h b d;go_enter func247,ntmps247;go_wp2_with (go_at_call 58;refine(K9 x _).mono ?_;rw [i.o];rintro e k ⟨rfl,rfl⟩);go_ret;exact⟨rfl,rfl⟩
theorem lD(A:Option Addr)(n c a x:Nat)(F:Nat)(caps:Array Value)(w:World)(R:Ending→World→Prop)(hw:Br x=true)(hr:a+x≤n)(hc:n≤c)(hn:n≤9223372036854775807)
  (hF:∀(args:Array Value) (w:World),(callFunc F args).run Ad w= .ok (.enter F args) w)
  (h:Calls Ad F (#[.slice (A.map fun p=>p.add a) x (c-a)]++caps) w fun e w'=>(∃v:Int,e= .returned (Aa Ab v))∧R e w'):
  Calls Ad 247 #[.slice A n c,Aa Ab a,Aa Ab x,.func (.func F) #[] caps] w R:=by
 have b:(1:Int)≤x∧(x:Int)≤8:=by have:=B6.1 hw;omega
 have j:¬c=a:=by omega
 have l:=b.1;have k:=b.2;have i:=Hd hw;have f:=Hd h;clear b hw h;go_enter func247,ntmps247;go_wp2_with (go_at_call 58;refine(K9 x _).mono ?_;rw [i.o];rintro e w' ⟨rfl,rfl⟩);refine f.o.mono ?_;rintro e w' ⟨⟨v,rfl⟩,d⟩;have g:=Hd d;clear d hF;go_wp2;exact g.o
def Dp:List UInt8→Nat
 | []=>0
 |c::l=>c.toNat+256*Dp l
theorem Ve(l:List UInt8)(c:UInt8):Dp (l++ [c])=Dp l+c.toNat*2^(8*l.length):=by
 induction l with
 |nil=>simp [Dp]
 |cons d l ih=>
  simp only [List.cons_append,Dp,ih,Av];rw [show 8*(l.length+1)=8*l.length+8 by omega,Nat.pow_add,Nat.mul_add,show(2:Nat)^8=256 by rfl];rw [Nat.mul_comm (2^(8*l.length)) 256,Nat.mul_left_comm];omega
theorem Py(l:List UInt8):Dp l<2^(8*l.length):=by
 induction l with
 |nil=>simp [Dp]
 |cons d l ih=>
  have:=d.toNat_lt;rw [Dp,Av,show 8*(l.length+1)=8*l.length+8 by omega,Nat.pow_add,show(2:Nat)^8=256 by rfl];omega
theorem vZ(u c:Nat)(k:Nat)(hu:u<2^(8*k)):u|||(c<<<(8*k))=u+c*2^(8*k):=by
 rw [Nat.or_comm,←Nat.shiftLeft_add_eq_or_of_lt hu,Nat.shiftLeft_eq,Nat.add_comm]
theorem Ce(n:Int)(h:0≤n∧n≤18446744073709551615):IntKind.u64.wrap n=n:=by
 rw [IntKind.wrap_u64];omega
theorem Aa2(u c k:Nat)(hk:k<8)(hu:u<2^(8*k))(hc:c<256):bits .or .u64 (u:Int) (IntKind.u64.wrap (IntKind.u64.wrap (c:Int)*2^(8*k)))=((u+c*2^(8*k):Nat):Int):=by
 have d:2^(8*k)≤2^56:=Nat.pow_le_pow_right (by omega) (by omega);have h1:c*2^(8*k)≤255*2^56:=Nat.mul_le_mul (by omega) d;have a:IntKind.u64.wrap (c:Int)=c:=Ce _ (by omega);have b:(c:Int)*2^(8*k)=((c*2^(8*k):Nat):Int):=by simp
 rw [a,b,Ce _ (by omega)];rw [u64_or_nat _ _ (by omega) (by omega),←vZ u c k hu,Nat.shiftLeft_eq]
theorem kD(A:Option Addr)(n c ub:Nat)(l:List UInt8)(w:World)(hl:B4 w A n l)(hn:n≤8)(hu:Bb w ub 26 #[Aa Ac 0])(hne:∀ad,A=some ad→ad.block≠ub):
  Calls Ad 248 #[.slice A n c,Aca ub] w fun e w'=>(∃v:Int,e= .returned (Aa Ab v))∧e= .returned (Aa Ab 0)∧Bb w' ub 26 #[Aa Ac (Dp l)]∧Fr (fun k=>k=ub) w w':=by
 have m:=Hd hl;have d:=Hd hu;have B:=Hd hne;clear hl hu hne;go_enter func248,ntmps248;go_wp2;go_loopw [8] (fun i wr=>∃k:Nat,k≤n∧i= Aa Ab k∧Bb wr ub 26 #[Aa Ac (Dp (l.take k))]∧B4 wr A n l∧Fr (fun k=>k=ub) w wr) (fun i _=>n-(intOf i).toNat)
 case atStart=>exact⟨0,by omega,rfl,d.o,m.o,Fr.refl _ _⟩
 case round=>
  obtain⟨k,E,rfl,a,f,g⟩:=hrel;by_cases r:k<n
  ·obtain⟨b,s,rfl,q,C⟩:=Ep f r;have F:wr.cell? ⟨ub,0,none⟩=some (Aa Ac (Dp (l.take k))):=a.cell 0;have D:=a.frozen 0;have d:=Hd a;have m:=Hd f;have j:=Hd g;clear a f g;have p:=Aa2 (Dp (l.take k)) l[k].toNat k (by omega) (by have:=Py (l.take k);rwa [Au,Nat.min_eq_left (by omega)] at this) l[k].toNat_lt;have t:Dp (l.take k)+l[k].toNat*2^(8*k)=Dp (l.take (k+1)):=by
    rw [List.take_succ_eq_append_getElem q,Ve,Au,Nat.min_eq_left (by omega)]
   rw [t] at p;have z:=Hd p;clear p t;go_wp2;go_region;rw [z.o];have y:Fr (fun k=>k=ub) w ((wr.setCell ⟨ub,0,none⟩ (Aa Ac (Dp (l.take (k+1))))).drew):=(Fr.setCell (S:=fun k=>k=ub) j.o (fun _=>rfl) _).drew;have u:Bb ((wr.setCell ⟨ub,0,none⟩ (Aa Ac (Dp (l.take (k+1))))).drew) ub 26 #[Aa Ac (Dp (l.take (k+1)))]:=(d.o.set_ 0 (Aa Ac (Dp (l.take (k+1)))));have x:B4 ((wr.setCell ⟨ub,0,none⟩ (Aa Ac (Dp (l.take (k+1))))).drew) (some ⟨b,s,none⟩) n l:=(m.o.fr (S:=fun k=>k=ub) (Fr.setCell (S:=fun k=>k=ub) (Fr.refl _ _) (fun _=>rfl) _).drew (B.o));have h:=Hd (And.intro y (And.intro u x));clear y u x;go_wp2;go_roundw
   case rel=>exact⟨k+1,by omega,by go_num,h.o.2.1,h.o.2.2,h.o.1⟩
   case measure=>simp [intOf];omega
  ·obtain rfl:k=n:=by omega
   rw [Aw (by rw [f.1];exact Ae _)] at a;have d:=Hd a;have j:=Hd g;clear a f g;go_wp2;go_ret;exact⟨⟨0,rfl⟩,rfl,d.o,j.o⟩
def loadU(l:List UInt8)(a w:Int):Nat:=if Br w=true∧0≤a∧a+w≤l.length then Dp ((l.drop a.toNat).take w.toNat) else 0
theorem P7(l:List UInt8)(a w:Int):(∃k x:Nat,a=k∧w=x∧Br (x:Int)=true∧k+x≤l.length∧1≤x∧x≤8∧Bz l.length a w=0∧loadU l a w=Dp ((l.drop k).take x))∨(Bz l.length a w≠0∧loadU l a w=0∧¬(Br w=true∧0≤a∧a+w≤l.length)):=by
 by_cases h:Br w=true∧0≤a∧a+w≤l.length
 ·obtain⟨h1,h2,h3⟩:=h;have b:=B6.1 h1;obtain⟨k,rfl⟩:=Int.eq_ofNat_of_zero_le h2;obtain⟨x,rfl⟩:=Int.eq_ofNat_of_zero_le (a:=w) (by omega);exact .inl ⟨k,x,rfl,rfl,h1,by omega,by omega,by omega,by simp only [Bz,h1,if_true];exact if_pos ⟨h2,h3⟩,by unfold loadU;rw [if_pos ⟨h1,h2,h3⟩];rfl⟩
 ·refine .inr ⟨?_,if_neg h,h⟩;intro e;unfold Bz at e;split at e
  ·rename_i h1;split at e
   ·rename_i h2;exact h ⟨h1,h2⟩
   ·cases e
  ·cases e
theorem M3{x:Nat}(h:B4 w A n l)(hk:k+x≤n):B4 w (A.map fun p=>p.add k) x ((l.drop k).take x):=by
 have h1:=(h.cut1 C0 (k:=k)).take C0 (k:=x) (by omega);simpa [Nat.mul_one] using h1
theorem oK{ad:Addr}(h:(A.map fun p=>p.add k)=some ad):∃a,A=some a∧ad.block=a.block:=by
 cases A with
 |none=>cases h
 |some a=>
  injection h with h
  subst h;exact⟨a,rfl,by show(a.add k).block=_;unfold Addr.add;split <;>rfl⟩
theorem Ka(A:Option Addr)(n c:Nat)(a x:Int)(l:List UInt8)(w:World)(hl:B4 w A n l)(hc:n≤c)(hn:n≤9223372036854775807):
  Calls Ad 149 #[.slice A n c,Aa Ab a,Aa Ab x] w (Ab5 (.tuple #[Aa Ac (loadU l a x),Aa Ab (Bz n a x)]) w):=by
 have f:=hl.1;subst f;rcases P7 l a x with⟨k,y,rfl,rfl,h1,h2,h3,C,b,d⟩|⟨b,d,z⟩
 ·rw [b,d];have p:=Hd hl;have u:=Hd h1;have j:=Hd h2;clear hl b d h1;go_enter func149,ntmps149;go_wp2_with fail;refine(lD A l.length c k y 248 #[Aca w.heap.size] _ (fun e w'=>e= .returned (Aa Ab 0)∧Bb w' w.heap.size 26 #[Aa Ac (Dp ((l.drop k).take y))]∧Fr (fun k=>k=w.heap.size) (w.alloc (.cells #[Aa Ac 0] 26)) w') u.o j.o hc hn Tryz.call248
   (kD _ y _ w.heap.size _ _ (M3 (p.o.alloc _) j.o) C (Bb.new w _ _) (fun ad h=>?_))).mono ?_
  ·obtain⟨G,B,e⟩:=oK h;obtain⟨H,r,g,m⟩:=p.o.some_ C0 (by omega) (by have:=j.o;omega);rw [B] at g;injection g with g
   subst g;show ad.block≠w.heap.size;rw [e];exact Nat.ne_of_lt m
  ·rintro e E ⟨rfl,i,q⟩;have D:E.cell? ⟨w.heap.size,0,none⟩=some (Aa Ac (Dp ((l.drop k).take y))):=i.cell 0;have I:=i.frozen 0;have F:=Hd i;have t:=Hd q;clear i q;go_wp2;refine bodyPost_ret (v:= .tuple #[Aa Ac (Dp ((l.drop k).take y)),Aa Ab 0]) (by simp [results,results149,go_sem,D]) rfl ⟨rfl,?_⟩;refine Cf ((Af _ _).alloc (Ae _) _) (Fr.setCell (S:=fun k=>k=w.heap.size) t.o (fun _=>rfl) _) ?_;rintro J rfl;exact Ae _
 ·rw [d];have s:=Hd b;clear hl b d z;go_enter func149,ntmps149;go_wp2_with fail;refine(qM A l.length c a x _ _ s.o hn).mono ?_;rintro e w' ⟨rfl,rfl⟩;go_wp2;refine bodyPost_ret (v:= .tuple #[Aa Ac 0,Aa Ab (Bz l.length a x)]) (by simp [results,results149,go_sem]) rfl ⟨rfl,?_⟩;exact(Af _ _).alloc (Ae _) _
def K0:Array Value:=(uN.flatMap fun r=>[Aa Ab r.1,Aa Ab r.2.1,Aa Ab r.2.2]).toArray
def kW:Array Value:=Array.replicate 111 (Aa Ab 0)
theorem Aa9:(Ad.info? 264).map (fun i=>(i.zero,i.size))=some (some (Value.agg kW),111):=by kernel_rfl
theorem dF{P:Program}{o:Oper}{a:Act}{next:Act→World→Prop}{Q:Exit→Act→World→Prop}{r:Result Unit}{w':World}(h:r= .ok () w')(hk:next (a.put o.dst undef) w'):
  o.upon P a next Q (r.andThen fun _ w'=> .ok .skip w'):=by subst h;exact hk
theorem S8(w:World):Calls Ad 243 #[] w (Ab5 (.agg K0) w):=by
 have c:=(zero_of_info Aa9).1;have a:kW.size=111:=rfl;go_enter func243,ntmps243;go_wp2;refine dF (w':=w.alloc (.cells K0 264)) ?_ ?_
 ·refine Eq.trans ?_ (run_storeCells_new (P:=Ad) w 264 kW K0 (by kernel_rfl) (by kernel_rfl) (by kernel_rfl))
  kernel_rfl
 ·have b:=run_loadVar_new (P:=Ad) w 264 K0 37 186 underlying264 (by kernel_rfl);clear c a;go_wp2;refine bodyPost_ret (v:= .agg K0) ?_ rfl ⟨rfl,(Af _ _).alloc (Ae _) _⟩;refine results_cell_row (fn:=Tryz.f243) rfl _ _ w.heap.size 264 K0 (0,0) _ ?_ (heap_alloc_last w _) underlying264 rfl (by kernel_rfl);rfl
def Kx(r:Int×Int×Int):Value:= .agg #[Aa Ab r.1,Aa Ab r.2.1,Aa Ab r.2.2]
theorem qE(ht:Ig t=true):∀w,(Instr.index 264 (.agg K0) (Aa Ab t)).run Ad w= .ok (Kx (Gb t)) w:=by
 have h:∀n:Fin 37,∀w,(Instr.index 264 (.agg K0) (Aa Ab ((n.val:Nat):Int))).run Ad w= .ok (Kx (Gb ((n.val:Nat):Int))) w:=by
  intro n;rcases n with⟨n,a⟩
  have:n=0∨n=1∨n=2∨n=3∨n=4∨n=5∨n=6∨n=7∨n=8∨n=9∨n=10∨n=11∨n=12∨n=13∨n=14∨n=15∨n=16∨n=17∨n=18∨n=19∨n=20∨n=21∨n=22∨n=23∨n=24∨n=25∨n=26∨n=27∨n=28∨n=29∨n=30∨n=31∨n=32∨n=33∨n=34∨n=35∨n=36:=by omega
  rcases this with rfl|rfl|rfl|rfl|rfl|rfl|rfl|rfl|rfl|rfl|rfl|rfl|rfl|rfl|rfl|rfl|rfl|rfl|rfl|rfl|rfl|rfl|rfl|rfl|rfl|rfl|rfl|rfl|rfl|rfl|rfl|rfl|rfl|rfl|rfl|rfl|rfl
  all_goals
   intro w
   kernel_rfl
 exact Lb (p:=fun t=>∀w,(Instr.index 264 (.agg K0) (Aa Ab t)).run Ad w= .ok (Kx (Gb t)) w) h ht
theorem tW(t:Int)(w:World):Calls Ad 147 #[Aa Ab t] w (Ab5 (Kx (Gb t)) w):=by
 cases ht:Ig t with
 |true=>
  have a:=Ez.1 ht;have j:=a.1;have k:=a.2;have b:=qE ht;have p:=Hd (show True from trivial);obtain⟨r,d⟩:∃r,Gb t=r:=⟨_,rfl⟩;obtain⟨l,m,n⟩:=r;rw [d] at b⊢;unfold Kx at b⊢;clear a d ht;go_enter func147,ntmps147;go_wp2_with fail;go_at_call 243;refine(S8 _).mono ?_;rintro e x ⟨rfl,a⟩;have c:=Hd ((Bb.new w 186 #[Aa Ab 0,Aa Ab 0,Aa Ab 0]).pure a);have f:=Hd (B5 ((Af w.heap.size w).alloc (Ae _) _) a);have g:=(c.o.cell 0).trans (show _=some (Aa Ab 0) from rfl);have h:=(c.o.cell 1).trans (show _=some (Aa Ab 0) from rfl);have i:=(c.o.cell 2).trans (show _=some (Aa Ab 0) from rfl);obtain ⟨q,s,u⟩:=c.o.f3;clear a;go_wp2;refine bodyPost_ret (v:= .agg #[Aa Ab l,Aa Ab m,Aa Ab n]) (by simp [results,results147,go_sem,g,h,i]) rfl ⟨rfl,?_⟩;exact((f.o.setCell (Ae _) _).setCell (Ae _) _).setCell (Ae _) _
 |false=>
  rw [Lc ht];have a:t<0∨37≤t:=by
   have:¬(0≤t∧t<37):=by rw [←Ez,ht];simp
   omega
  clear ht;rcases a with a|a
  ·go_enter func147,ntmps147;go_wp2;refine bodyPost_ret (v:=Kx (0,0,0)) (by simp [results,results147,go_sem,Kx]) rfl ⟨rfl,?_⟩;exact(Af _ _).alloc (Ae _) _
  ·have h0:¬t<0:=by omega
   go_enter func147,ntmps147;go_wp2;refine bodyPost_ret (v:=Kx (0,0,0)) (by simp [results,results147,go_sem,Kx]) rfl ⟨rfl,?_⟩;exact(Af _ _).alloc (Ae _) _
theorem Xi(a b c:Int)(w:World):(Instr.field 186 (.agg #[Aa Ab a,Aa Ab b,Aa Ab c]) 0).run Ad w= .ok (Aa Ab a) w:=by kernel_rfl
theorem Xj(a b c:Int)(w:World):(Instr.field 186 (.agg #[Aa Ab a,Aa Ab b,Aa Ab c]) 1).run Ad w= .ok (Aa Ab b) w:=by kernel_rfl
theorem Xk(a b c:Int)(w:World):(Instr.field 186 (.agg #[Aa Ab a,Aa Ab b,Aa Ab c]) 2).run Ad w= .ok (Aa Ab c) w:=by kernel_rfl
theorem R2(t r0 r1 r2:Int)(w:World)(h:Gb t=(r0,r1,r2)):Calls Ad 147 #[Aa Ab t] w (Ab5 (.agg #[Aa Ab r0,Aa Ab r1,Aa Ab r2]) w):=by
 have:=tW t w;rw [h] at this;exact this
theorem Fi(t:Int)(w:World):Calls Ad 86 #[Aa Ab t] w (Ab5 (.bool (Ch t)) w):=by
 unfold Ch;obtain⟨r,a⟩:∃r,Gb t=r:=⟨_,rfl⟩;obtain⟨i,j,k⟩:=r;have d:=Hd a;rw [a];clear a;have f:=Xi;have g:=Xj;have h:=Xk;go_enter func86,ntmps86;go_wp2_with fail;go_at_call 147;refine(R2 t i j k _ d.o).mono ?_;rintro e l ⟨rfl,b⟩;have c:=Hd b;clear b;go_wp2;go_ret;exact⟨rfl,c.o⟩
theorem Cm(t:Int)(w:World):Calls Ad 78 #[Aa Ab t] w (Ab5 (.bool (Bt t)) w):=by
 unfold Bt;obtain⟨r,a⟩:∃r,Gb t=r:=⟨_,rfl⟩;obtain⟨i,j,k⟩:=r;have d:=Hd a;rw [a];clear a;have f:=Xi;have g:=Xj;have h:=Xk;go_enter func78,ntmps78;go_wp2_with fail;go_at_call 147;refine(R2 t i j k _ d.o).mono ?_;rintro e l ⟨rfl,b⟩;have c:=Hd b;clear b;go_wp2;go_ret;exact⟨rfl,c.o⟩
theorem J6(t:Int)(w:World):Calls Ad 272 #[Aa Ab t] w (Ab5 (.tuple #[Aa Ab (Fh t),Aa Ab (Cr t),.bool (Ib t)]) w):=by
 unfold Fh Cr Ib;obtain⟨r,a⟩:∃r,Gb t=r:=⟨_,rfl⟩;obtain⟨i,j,k⟩:=r;have d:=Hd a;rw [a];clear a;have f:=Xi;have g:=Xj;have h:=Xk;go_enter func272,ntmps272;go_wp2_with fail;go_at_call 147;refine(R2 t i j k _ d.o).mono ?_;rintro e l ⟨rfl,c⟩;have b:=Hd c;clear c;go_wp2_with fail;go_quiet (fail);go_wp2;go_ret3;exact⟨rfl,below_drewN (b.o.alloc b.o.size _) _⟩
theorem tB(n:Nat):wrap64 ((2:Int)^(n % 4))=2^(n % 4):=by
 have:n % 4=0∨n % 4=1∨n % 4=2∨n % 4=3:=by omega
 rcases this with e|e|e|e <;>rw [e] <;>unfold wrap64 <;>simp only [Int.reducePow] <;>omega
theorem Ln(c:UInt8)(w:World):Calls Ad 50 #[.int .u8 (c.toNat:Int)] w (Ab5 (.tuple #[Aa Ab (I7 c),Aa Ab (I8 c),Aa Ab (Fq c)]) w):=by
 have g:=c.toNat_lt;have h:IntKind.u8.wrap ((c.toNat:Int)/4)=(c.toNat:Int)/4:=by rw [IntKind.wrap_u8];omega
 cases hl:Ch ((c.toNat:Int)/4) with
 |true=>
  have d:=Hd hl;have h1:I7 c=(c.toNat:Int)/4:=by unfold I7;rw [if_pos hl]
  have h2:I8 c=2^(c.toNat % 4):=by unfold I8;rw [if_pos hl]
  have h3:Fq c=0:=by unfold Fq;rw [if_pos hl]
  rw [h1,h2,h3];clear hl h1 h2 h3;go_enter func50,ntmps50;go_wp2_with fail;go_at_call 86;refine(Fi _ _).mono ?_;rw [d.o];rintro e f ⟨rfl,a⟩;have b:=Hd a;clear a;go_wp2;rw [tB];go_ret3;exact⟨rfl,b.o⟩
 |false=>
  have d:=Hd hl;have h1:I7 c=0:=by unfold I7;rw [hl];rfl
  have h2:I8 c=0:=by unfold I8;rw [hl];rfl
  have h3:Fq c=20:=by unfold Fq;rw [hl];rfl
  rw [h1,h2,h3];clear hl h1 h2 h3;go_enter func50,ntmps50;go_wp2_with fail;go_at_call 86;refine(Fi _ _).mono ?_;rw [d.o];rintro e f ⟨rfl,a⟩;have b:=Hd a;clear a;go_wp2;go_ret3;exact⟨rfl,b.o⟩
theorem zK(h:Ig t=false):t<0∨37≤t:=by
 have:¬(0≤t∧t<37):=by rw [←Ez,h];simp
 omega
theorem Oh(t:Int)(w:World):Calls Ad 174 #[Aa Ab t] w (Ab6 (.bool (Ch t)) w):=by
 cases ht:Ig t with
 |true=>
  have h:=Ez.1 ht;have h:t=0∨t=1∨t=2∨t=3∨t=4∨t=5∨t=6∨t=7∨t=8∨t=9∨t=10∨t=11∨t=12∨t=13∨t=14∨t=15∨t=16∨t=17∨t=18∨t=19∨t=20∨t=21∨t=22∨t=23∨t=24∨t=25∨t=26∨t=27∨t=28∨t=29∨t=30∨t=31∨t=32∨t=33∨t=34∨t=35∨t=36:=by omega
  clear ht;rcases h with rfl|rfl|rfl|rfl|rfl|rfl|rfl|rfl|rfl|rfl|rfl|rfl|rfl|rfl|rfl|rfl|rfl|rfl|rfl|rfl|rfl|rfl|rfl|rfl|rfl|rfl|rfl|rfl|rfl|rfl|rfl|rfl|rfl|rfl|rfl|rfl|rfl
  all_goals
   go_enter func174,ntmps174;go_wp2;go_ret;exact⟨rfl,rfl⟩
 |false=>
  have q:=zK ht;have a:Ch t=false:=by unfold Ch;rw [Lc ht];rfl
  have H:=Hd a;have r:(t==0)=false:=beq_eq_false_iff_ne.mpr (by omega);have s:(t==1)=false:=beq_eq_false_iff_ne.mpr (by omega);have u:(t==2)=false:=beq_eq_false_iff_ne.mpr (by omega);have v:(t==4)=false:=beq_eq_false_iff_ne.mpr (by omega);have x:(t==5)=false:=beq_eq_false_iff_ne.mpr (by omega);have y:(t==6)=false:=beq_eq_false_iff_ne.mpr (by omega);have z:(t==7)=false:=beq_eq_false_iff_ne.mpr (by omega);have A:(t==9)=false:=beq_eq_false_iff_ne.mpr (by omega);have b:(t==10)=false:=beq_eq_false_iff_ne.mpr (by omega);have c:(t==11)=false:=beq_eq_false_iff_ne.mpr (by omega);have d:(t==12)=false:=beq_eq_false_iff_ne.mpr (by omega);have e:(t==14)=false:=beq_eq_false_iff_ne.mpr (by omega);have f:(t==16)=false:=beq_eq_false_iff_ne.mpr (by omega);have g:(t==17)=false:=beq_eq_false_iff_ne.mpr (by omega);have i:(t==19)=false:=beq_eq_false_iff_ne.mpr (by omega);have j:(t==20)=false:=beq_eq_false_iff_ne.mpr (by omega);have k:(t==22)=false:=beq_eq_false_iff_ne.mpr (by omega);have l:(t==23)=false:=beq_eq_false_iff_ne.mpr (by omega);have m:(t==25)=false:=beq_eq_false_iff_ne.mpr (by omega);have n:(t==26)=false:=beq_eq_false_iff_ne.mpr (by omega);have p:(t==36)=false:=beq_eq_false_iff_ne.mpr (by omega);clear q a ht;go_enter func174,ntmps174;go_wp2;go_ret;exact⟨Ck H.o.symm,rfl⟩
theorem Ni(t:Int)(w:World):Calls Ad 97 #[Aa Ab t] w (Ab6 (.bool (Bt t)) w):=by
 by_cases h0:t=0
 ·subst h0;go_enter func97,ntmps97;go_wp2;go_ret;exact⟨rfl,rfl⟩
 by_cases h1:t=1
 ·subst h1;go_enter func97,ntmps97;go_wp2;go_ret;exact⟨rfl,rfl⟩
 by_cases h2:t=2
 ·subst h2;go_enter func97,ntmps97;go_wp2;go_ret;exact⟨rfl,rfl⟩
 by_cases h3:t=26
 ·subst h3;go_enter func97,ntmps97;go_wp2;go_ret;exact⟨rfl,rfl⟩
 have a:Bt t=false:=nK h0 h1 h2 h3;have H:=Hd a;have b:(t==0)=false:=beq_eq_false_iff_ne.mpr h0;have c:(t==1)=false:=beq_eq_false_iff_ne.mpr h1;have d:(t==2)=false:=beq_eq_false_iff_ne.mpr h2;have e:(t==26)=false:=beq_eq_false_iff_ne.mpr h3;clear h0 h1 h2 h3 a;go_enter func97,ntmps97;go_wp2;go_ret;exact⟨Ck H.o.symm,rfl⟩
theorem eW(n:Nat)(w:World)(h:n<4):Calls Ad 175 #[Aa Ab n] w (Ab6 (Aa Ab (2^n)) w):=by
 have:n=0∨n=1∨n=2∨n=3:=by omega
 clear h;rcases this with rfl|rfl|rfl|rfl
 all_goals
  go_enter func175,ntmps175;go_wp2;go_ret;exact⟨rfl,rfl⟩
theorem Rx(c:UInt8)(w:World):Calls Ad 96 #[.int .u8 (c.toNat:Int)] w (Ab6 (.tuple #[Aa Ab (I7 c),Aa Ab (I8 c),Aa Ab (Fq c)]) w):=by
 have d:=c.toNat_lt;cases hl:Ch ((c.toNat:Int)/4) with
 |true=>
  have a:=Hd hl;have h1:I7 c=(c.toNat:Int)/4:=by unfold I7;rw [if_pos hl]
  have h2:I8 c=2^(c.toNat % 4):=by unfold I8;rw [if_pos hl]
  have h3:Fq c=0:=by unfold Fq;rw [if_pos hl]
  rw [h1,h2,h3];clear hl h1 h2 h3;go_enter func96,ntmps96;go_wp2_with fail;go_at_call 174;refine(Oh _ _).mono ?_;rw [a.o];rintro e b ⟨rfl,rfl⟩;go_wp2_with fail;rw [show(c.toNat:Int) % 4=((c.toNat % 4:Nat):Int) by omega];go_at_call 175;refine(eW (c.toNat % 4) _ (Nat.mod_lt _ (by omega))).mono ?_;rintro e b ⟨rfl,rfl⟩;go_wp2;go_ret3;exact⟨rfl,rfl⟩
 |false=>
  have a:=Hd hl;have h1:I7 c=0:=by unfold I7;rw [hl];rfl
  have h2:I8 c=0:=by unfold I8;rw [hl];rfl
  have h3:Fq c=20:=by unfold Fq;rw [hl];rfl
  rw [h1,h2,h3];clear hl h1 h2 h3;go_enter func96,ntmps96;go_wp2_with fail;go_at_call 174;refine(Oh _ _).mono ?_;rw [a.o];rintro e b ⟨rfl,rfl⟩;go_wp2;go_ret3;exact⟨rfl,rfl⟩
theorem Yh(A:Option Addr)(n c:Nat)(a x:Int)(w:World)(hn:n≤9223372036854775807):
  Calls Ad 275 #[.slice A n c,Aa Ab a,Aa Ab x] w (Ab6 (Aa Ab (Bz n a x)) w):=by
 by_cases b:Br x=true
 ·have d:=B6.1 b;have g:=Hd b;have k:1≤x:=by omega
  have j:x≤8:=by omega
  by_cases h:0≤a∧a+x≤n
  ·have H:=Hd (show Bz n a x=0 by simp only [Bz,b,if_true,if_pos h]);rw [H.o];have h0:¬a<0:=by omega
   have h1:¬(n:Int)<x:=by omega
   have h2:¬(n:Int)-x<a:=by omega
   clear b d h;go_enter func275,ntmps275;go_wp2_with (go_at_call 95;refine(E4 x _).mono ?_;rw [g.o];rintro e i ⟨rfl,rfl⟩);go_ret;exact⟨rfl,rfl⟩
  ·have H:=Hd (show Bz n a x=6 by simp only [Bz,b,if_true,if_neg h]);rw [H.o];by_cases h0:a<0
   ·clear b d h;go_enter func275,ntmps275;go_wp2_with (go_at_call 95;refine(E4 x _).mono ?_;rw [g.o];rintro e i ⟨rfl,rfl⟩);go_ret;exact⟨rfl,rfl⟩
   ·by_cases h1:(n:Int)<x
    ·clear b d h;go_enter func275,ntmps275;go_wp2_with (go_at_call 95;refine(E4 x _).mono ?_;rw [g.o];rintro e i ⟨rfl,rfl⟩);go_ret;exact⟨rfl,rfl⟩
    ·have h2:(n:Int)-x<a:=by omega
     clear b d h;go_enter func275,ntmps275;go_wp2_with (go_at_call 95;refine(E4 x _).mono ?_;rw [g.o];rintro e i ⟨rfl,rfl⟩);go_ret;exact⟨rfl,rfl⟩
 ·have f:Br x=false:=by simpa using b
  have H:=Hd (show Bz n a x=2 by simp [Bz,f]);have g:=Hd f;rw [H.o];clear b f;go_enter func275,ntmps275;go_wp2_with (go_at_call 95;refine(E4 x _).mono ?_;rw [g.o];rintro e i ⟨rfl,rfl⟩);go_ret;exact⟨rfl,rfl⟩
theorem H9(A:Option Addr)(n c:Nat)(a x:Int)(l:List UInt8)(w:World)(hl:B4 w A n l)(hn:n≤9223372036854775807):
  Calls Ad 176 #[.slice A n c,Aa Ab a,Aa Ab x] w (Ab5 (.tuple #[Aa Ac (loadU l a x),Aa Ab (Bz n a x)]) w):=by
 have j:=hl.1;subst j;rcases P7 l a x with⟨k,y,rfl,rfl,h1,h2,h3,O,f,h⟩|⟨f,h,F⟩
 ·rw [f,h];have L:=Hd hl;have J:=Hd h2;have D:=Hd f;generalize u:(l.drop k).take y=p;have q:p.length=y:=by rw [←u,Au,List.length_drop];omega
  have m:∀t,t<y→∃c:UInt8,p.drop t=c::p.drop (t+1)∧∃b off,A=some ⟨b,off,none⟩∧w.cell? ⟨b,off+(k+t),none⟩=some (.int .u8 (c.toNat:Int)):=by
   intro t ht;obtain⟨b,off,e,P,B⟩:=Ep hl (k:=k+t) (by omega);refine⟨l[k+t],?_,b,off,e,B⟩;rw [List.drop_eq_getElem_cons (by omega)]
   congr 1
   simp only [←u];rw [List.getElem_take,List.getElem_drop]
  have E:=Hd m;have g:=Hd q;clear hl f h h1 u q m;go_enter func176,ntmps176;go_wp2_with (go_at_call 275;refine(Yh A _ c _ _ _ hn).mono ?_;rw [D.o];rintro e I ⟨rfl,rfl⟩);go_loopw [9,10] (fun N i wr=>∃t:Nat,t≤y∧i= Aa Ab ((t:Int)-1)∧N= Aa Ac (Dp (p.drop t))∧wr=w) (fun _ i _=>(intOf i+1).toNat)
  case atStart=>exact⟨y,by omega,rfl,by rw [List.drop_eq_nil_of_le (by rw [g.o];exact Ae _)];rfl,rfl⟩
  case round=>
   obtain⟨t,ht,rfl,rfl,rfl⟩:=hrel;rcases Nat.eq_zero_or_pos t with h0|h0
   ·subst h0;go_wp2;go_ret2;exact⟨rfl,Af _ _⟩
   ·obtain⟨t,rfl⟩:∃s,t=s+1:=⟨t-1,by omega⟩;obtain⟨d,C,b,off,rfl,B⟩:=E.o t (by omega);have z:Dp (p.drop t)=d.toNat+256*Dp (p.drop (t+1)):=by rw [C];rfl
    have r:Dp (p.drop (t+1))<72057594037927936:=by
     have:=Py (p.drop (t+1));rw [List.length_drop,g.o] at this;exact Ar this (Nat.pow_le_pow_right (by omega) (by omega:8*(y-(t+1))≤56))
    have v:=Hd z;clear z C;generalize Dp (p.drop (t+1))=M at r v;have G:=d.toNat_lt;go_wp2;refine⟨⟨t,by omega,rfl,?_,trivial⟩,by simp [intOf]⟩;rw [v.o]
    congr 1
    first|(rw [Ce (d.toNat:Int) (by omega),Ce _ (by omega)];omega)|omega
 ·rw [h];have K:=Hd f;have H:(Bz l.length a x != 0)=true:=by simpa using f
  clear hl f h F;go_enter func176,ntmps176;go_wp2_with (go_at_call 275;refine(Yh A _ c _ _ _ hn).mono ?_;rintro e I ⟨rfl,rfl⟩);go_ret2;exact⟨rfl,Af _ _⟩
theorem pD{k:IntKind}{a b:Int}{v:Value}(h:a=b):Ending.returned (.tuple #[.int k a,v])= .returned (.tuple #[.int k b,v]):=by rw [h]
def sx(w u:Nat):Int:=if u<2^(8*w-1) then u else(u:Int)-2^(8*w)
def Jg(l:List UInt8)(a w:Int):Int:=if Br w=true∧0≤a∧a+w≤l.length then sx w.toNat (loadU l a w) else 0
theorem sG(l:List UInt8)(a:Int)(x:Nat):loadU l a x<2^(8*x):=by
 unfold loadU;split
 ·refine Ar (Py _) (Nat.pow_le_pow_right (by omega) ?_);have:=List.length_take_le x (l.drop a.toNat);simp only [Int.toNat_natCast];omega
 ·exact Nat.two_pow_pos _
theorem C8(n:Int)(h: -9223372036854775808≤n∧n≤9223372036854775807):wrap64 n=n:=by unfold wrap64;omega
theorem Ee(A:Option Addr)(n c:Nat)(a x:Int)(l:List UInt8)(w:World)(er:Int)(u:Nat)(hl:B4 w A n l)(hc:n≤c)(hn:n≤9223372036854775807)(h1:Bz n a x=er)(h2:loadU l a x=u):
  Calls Ad 149 #[.slice A n c,Aa Ab a,Aa Ab x] w (Ab5 (.tuple #[Aa Ac u,Aa Ab er]) w):=by
 subst h1 h2;exact Ka A n c a x l w hl hc hn
theorem Ea(A:Option Addr)(n c:Nat)(a x:Int)(l:List UInt8)(w:World)(er:Int)(u:Nat)(hl:B4 w A n l)(hn:n≤9223372036854775807)(h1:Bz n a x=er)(h2:loadU l a x=u):
  Calls Ad 176 #[.slice A n c,Aa Ab a,Aa Ab x] w (Ab5 (.tuple #[Aa Ac u,Aa Ab er]) w):=by
 subst h1 h2;exact H9 A n c a x l w hl hn
theorem kE(A:Option Addr)(n c:Nat)(a x:Int)(l:List UInt8)(w:World)(hl:B4 w A n l)(hc:n≤c)(hn:n≤9223372036854775807):
  Calls Ad 168 #[.slice A n c,Aa Ab a,Aa Ab x] w (Ab5 (.tuple #[Aa Ab (Jg l a x),Aa Ab (Bz n a x)]) w):=by
 have g:=hl.1;subst g;rcases P7 l a x with⟨k,y,rfl,rfl,h1,h2,h3,B,d,h⟩|⟨d,h,f⟩
 ·have f:Jg l k y=sx y (loadU l k y):=by unfold Jg;rw [if_pos ⟨h1,by omega,by omega⟩];rfl
  rw [d,f];have q:=sG l k y;generalize r:loadU l k y=u at q;have j:=Hd r;clear r;have i:=Hd hl;have s:=Hd d;have m:=B6.1 h1;clear hl d h f;have v:y=1∨y=2∨y=4∨y=8:=by omega
  clear h1 m;rcases v with rfl|rfl|rfl|rfl
  all_goals
   go_enter func168,ntmps168;go_wp2_with (go_at_call 149;refine(Ee A _ c _ _ l _ 0 u i.o hc hn s.o j.o).mono ?_;rintro e z ⟨rfl,b⟩);go_ret2;refine⟨pD ?_,b⟩;unfold sx wrap64;simp only [Nat.reduceMul,Nat.reduceSub,Nat.reducePow] at q⊢;split <;>omega
 ·have p:Jg l a x=0:=if_neg f;have t:(Bz l.length a x != 0)=true:=by simpa using d
  rw [p];have i:=Hd hl;have j:=Hd h;clear hl d h f p;go_enter func168,ntmps168;go_wp2_with (go_at_call 149;refine(Ee A _ c _ _ l _ _ 0 i.o hc hn rfl j.o).mono ?_;rintro e z ⟨rfl,b⟩);go_ret2;exact⟨rfl,b⟩
end Go.Proofs.YtejpbijeifjdeaaGreat
