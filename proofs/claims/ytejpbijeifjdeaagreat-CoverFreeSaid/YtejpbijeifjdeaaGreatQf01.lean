/- Parts of the proof. -/
import Derived.Test.YtejpbijeifjdeaaGreatRows
import Derived.WalkKit
import Derived.WalkSpells
import Derived.WalkLawsBesides
import Derived.Below
import Derived.Laws.OwnMore
import Derived.Deep.AppendLies
import Derived.Deep.Draws
import Derived.Laws.Rows
import Derived.Maps.AppendAt
import Derived.RegionTactic
import Derived.OwnWalk
import Derived.Deep.QuietTactic
import Derived.BigQuiet
import Derived.Lib.Hide
import Derived.Deep.Slices
import Derived.Deep.Fields
import Derived.Deep.RegionHeld3
import Derived.ChangeSame
import Derived.ProofKit
import Derived.OpenShut
import Derived.Deep.WholeRow
import Derived.Lib.AppendZeros
set_option maxHeartbeats 1000000
set_option maxRecDepth 100000
open Go.Value renaming int→Aa
open Go.IntKind renaming i64→Ab,u64→Ac
open Nat renaming le_refl→Ae,lt_of_lt_of_le→Ax
open Go.RowKit.Below renaming refl→Af
open List renaming getElem?_eq_getElem→Ag,length_append→Ah,replicate→Al,append_assoc→Am,length_cons→Au,length_take→Az,nil_append→A6,take_of_length_le→Bb,getElem?_eq_none→Bg,getElem?_append_left→Bh
open UInt8 renaming ofNat→An
open Go.Proofs.Tryz
open Go.Proofs.Tryz renaming prog→Ad
namespace Go
abbrev Aff(k n:Int)(u:Nat)(s:List UInt8)(A:Option Addr)(an ac:Nat)(B:Option Addr)(bn bc:Nat):Array Value:=#[.int .i64 k,.int .i64 n,.int .u64 (u:Int),.string ⟨s.toArray⟩,.slice A an ac,.slice B bn bc]
abbrev Afg(p q t v:Int):Array Value:=#[.int .i64 p,.int .i64 q,.int .i64 t,.int .i64 v]
abbrev Afh(b:Nat):Value:=.pointer (some ⟨b,0,none⟩)
abbrev Afc(v:Value)(w:World)(e:Ending)(w':World):Prop:=e= .returned v∧RowKit.Below w.heap.size w w'
abbrev Afd(v:Value)(w:World)(e:Ending)(w':World):Prop:=e= .returned v∧w=w'
theorem Hd{p:Prop}(h:p):RowKit.Hid p:=Lib.hid h
theorem RowKit.Hid.o{p:Prop}(h:RowKit.Hid p):p:=h.out
end Go
namespace Go.Acc
open Go.RowKit Go.ChangeShapes Go.WideShapes Go.Deep
variable {w:World}{u v:Value}{B c k base e size n:Nat}{p:Addr}{xs:List Value}{ops:Array Oper}{rest:List Oper}{o:Oper}{a:Act}{Q:Exit→Act→World→Prop}
theorem I6(b off j:Nat):(⟨b,off,none⟩:Addr).add j=⟨b,off+j,none⟩:=by
 unfold Addr.add;split <;>simp_all
theorem fZ{a:Addr}(h:w.cell? a=some u):a.spot=none:=by
 unfold World.cell? at h;split at h
 ·split at h
  ·cases h
  ·rename_i hs;simpa using hs
 ·cases h
def Rd(w:World)(A:Option Addr)(xs:List Value):Prop:=
 ∀j u,xs[j]?=some u→∃b off,A=some ⟨b,off,none⟩∧w.cell? ⟨b,off+j,none⟩=some u
structure Fr(S:Nat→Prop)(w w':World):Prop where
 os:w'.os=w.os
 tape:w'.tape=w.tape
 output:w'.output=w.output
 size:w.heap.size≤w'.heap.size
 block:∀k,k<w.heap.size→¬S k→w'.heap[k]?=w.heap[k]?
section
variable {w w' w'':World} {S T:Nat→Prop} {A:Option Addr} {xs ys:List Value}
theorem Fr.refl(S:Nat→Prop)(w:World):Fr S w w:=⟨rfl,rfl,rfl,Ae _,fun _ _ _=>rfl⟩
theorem Fr.trans(h:Fr S w w')(k:Fr T w' w'')(hT:∀i,i<w.heap.size→T i→S i):Fr S w w'':=
 ⟨k.os.trans h.os,k.tape.trans h.tape,k.output.trans h.output,Nat.le_trans h.size k.size,
  fun i hi hs=>(k.block i (Ax hi h.size) (fun ht=>hs (hT i hi ht))).trans (h.block i hi hs)⟩
theorem Fr.mono(h:Fr S w w')(hT:∀i,i<w.heap.size→S i→T i):Fr T w w':=
 ⟨h.os,h.tape,h.output,h.size,fun i hi hs=>h.block i hi (fun hS=>hs (hT i hi hS))⟩
theorem Fr.of_below(h:Below w.heap.size w w')(S:Nat→Prop):Fr S w w':=⟨h.os,h.tape,h.output,h.size,fun i hi _=>h.block i hi⟩
theorem Fr.below(h:Fr S w w')(hS:∀i,i<w.heap.size→¬S i):Below w.heap.size w w':=⟨h.os,h.tape,h.output,h.size,fun i hi=>h.block i hi (hS i hi)⟩
theorem Fr.belowB(h:Fr S w w')(hS:∀i,i<B→¬S i)(hB:B≤w.heap.size):Below B w w':=⟨h.os,h.tape,h.output,h.size,fun i hi=>h.block i (by omega) (hS i hi)⟩
theorem Fr.of_grown{row:Option Nat}(h:w.grownBy w' row):Fr (fun k=>some k=row) w w':=⟨h.os,h.tape,h.output,h.size,fun i hi hs=>h.block i hi hs⟩
theorem Fr.drew(h:Fr S w w'):Fr S w w'.drew:=⟨h.os,h.tape,h.output,h.size,h.block⟩
theorem Fr.drewN(h:Fr S w w')(n:Nat):Fr S w (w'.drewN n):=⟨h.os,h.tape,h.output,h.size,h.block⟩
theorem Fr.alloc(h:Fr S w w')(o:Obj):Fr S w (w'.alloc o):=
 ⟨h.os,h.tape,h.output,Nat.le_trans h.size (by simp),fun i hi hs=>(Below.heap_alloc w' o i (Ax hi h.size)).trans (h.block i hi hs)⟩
theorem Fr.setCell(h:Fr S w w')(hp:p.block<w.heap.size→S p.block)(u:Value):Fr S w (w'.setCell p u):=
 ⟨h.os,h.tape,h.output,by simpa [World.setCell] using h.size,fun i hi hs=>(Below.heap_setCell w' p u i (by
  rintro rfl;exact hs (hp hi))).trans (h.block i hi hs)⟩
theorem Fr.cell(h:Fr S w w')(hp:p.block<w.heap.size)(hs:¬S p.block):w'.cell? p=w.cell? p:=World.cell?_of_block (w:=w) (h.block p.block hp hs)
theorem Fr.frozen(h:Fr S w w')(hp:p.block<w.heap.size)(hs:¬S p.block):w'.frozen? p=w.frozen? p:=World.frozen?_of_block (w:=w) (h.block p.block hp hs)
theorem B3(h:w.cell? p=some u):p.block<w.heap.size:=World.block_lt_of_cell? w p h
theorem Bl(hb:Below w.heap.size w w')(h:w.cell? p=some u):w'.cell? p=some u:=(hb.cell (B3 h)).trans h
theorem C0(hb:Fr S w w')(h:w.cell? p=some u)(hs:¬S p.block):w'.cell? p=some u:=(hb.cell (B3 h) hs).trans h
theorem C1(h:Below w.heap.size w w')(k:Below w'.heap.size w' w''):Below w.heap.size w w'':=h.trans (k.mono h.size)
theorem Bi{a w':World}(h:Below B a w)(k:Below w.heap.size w w')(hB:B≤a.heap.size:=by exact Nat.le_refl _):Below B a w':=h.trans (k.mono (Nat.le_trans hB h.size))
theorem Rd.nil(w:World)(A:Option Addr):Rd w A []:=fun j u h=>by simp at h
theorem Rd.keep(h:Rd w A xs)(hk:∀p u,w.cell? p=some u→(∀ad,A=some ad→p.block=ad.block)→w'.cell? p=some u):Rd w' A xs:=by
 intro j u hu;obtain⟨b,off,rfl,hc⟩:=h j u hu;exact⟨b,off,rfl,hk _ _ hc (fun ad had=>by injection had with had;subst had;rfl)⟩
theorem Rd.pure(h:Rd w A xs)(hb:Below w.heap.size w w'):Rd w' A xs:=h.keep fun _ _ hc _=>Bl hb hc
theorem Rd.fr(h:Rd w A xs)(hb:Fr S w w')(hs:∀ad,A=some ad→¬S ad.block):Rd w' A xs:=by
 intro j u hu;obtain⟨b,off,rfl,hc⟩:=h j u hu;exact⟨b,off,rfl,C0 hb hc (hs ⟨b,off,none⟩ rfl)⟩
theorem Rd.drew(h:Rd w A xs):Rd w.drew A xs:=h
theorem Rd.drewN(h:Rd w A xs)(k:Nat):Rd (w.drewN k) A xs:=h
theorem Rd.alloc(h:Rd w A xs)(o:Obj):Rd (w.alloc o) A xs:=h.pure ((Af _ _).alloc (Ae _) o)
theorem Rd.at_{j:Nat}(h:Rd w A xs)(hj:j<xs.length):∃b off,A=some ⟨b,off,none⟩∧w.cell? ⟨b,off+j,none⟩=some xs[j]:=h j _ (Ag hj)
theorem Rd.lt(h:Rd w A xs)(hn:0<xs.length):∃b off,A=some ⟨b,off,none⟩∧b<w.heap.size:=by
 obtain⟨b,off,e,hc⟩:=h.at_ hn;exact⟨b,off,e,B3 hc⟩
theorem Rd.take(h:Rd w A xs)(n:Nat):Rd w A (xs.take n):=by
 intro j u hu;rw [List.getElem?_take] at hu;split at hu
 ·exact h j u hu
 ·cases hu
theorem Rd.drop(h:Rd w A xs)(n:Nat)(hc:c=k→xs.length≤n):Rd w (if c=k then A else A.map (·.add n)) (xs.drop n):=by
 intro j u hu;rw [List.getElem?_drop] at hu;have hl:=(List.getElem?_eq_some_iff.1 hu).1;rw [if_neg (by intro e;have:=hc e;omega)];obtain⟨b,off,rfl,hcc⟩:=h _ u hu;exact⟨b,off+n,by simp [I6],by rw [Nat.add_assoc];exact hcc⟩
theorem Rd.cells{b off:Nat}(h:Rd w (some ⟨b,off,none⟩) xs):∀j u,xs[j]?=some u→w.cell? ((⟨b,off,none⟩:Addr).add j)=some u:=by
 intro j u hu;obtain⟨b',off',e,hc⟩:=h j u hu;injection e with e
 injection e with e1 e2
 subst e1 e2;rw [I6];exact hc
theorem Rd.of_own(h:w.ownsRow base e size (.slice A n c) n xs):Rd w A xs:=by
 intro j u hu;rcases h.2 with⟨hv,rfl⟩|⟨g,cap,cur,hv,hb,hg,hnc,hcm,hcs,htake⟩
 ·have:=h.1;simp at this;subst this;simp at hu
 ·injection hv with hA hn hc
  subst hA;refine⟨g,0,rfl,?_⟩;have:=h.cells (g:=g) rfl j u hu
  rwa [I6] at this
theorem Lv{ad:Addr}(h:w.ownsRow base e size (.slice (some ad) n c) n xs)(j:Nat):w.frozen? ⟨ad.block,j,none⟩=false:=by
 rcases h.2 with⟨hv,_⟩|⟨g,cap,cur,hv,hb,hg,_⟩
 ·cases hv
 ·injection hv with hA
  injection hA with hA
  subst hA;exact frozen_of_row w g j cur e hg
theorem oE{base':Nat}(h:w.ownsRow base e size v n xs)(hb:base'≤base):w.ownsRow base' e size v n xs:=by
 refine⟨h.1,?_⟩;rcases h.2 with hn|⟨g,cap,cur,rfl,hbg,rest⟩
 ·exact .inl hn
 ·exact .inr ⟨g,cap,cur,rfl,Nat.le_trans hb hbg,rest⟩
theorem xF(h:w.ownsRow base e size v n xs)(hb:Below w.heap.size w w'):w'.ownsRow base e size v n xs:=
 h.kept (row:=none) ⟨hb.os,hb.tape,hb.output,hb.size,fun k hk _=>hb.block k hk⟩ (by cases v.ownBlock <;>simp)
theorem Adk(h:w.ownsRow base e size v n xs)(hb:Fr S w w')(hs:∀g,v.ownBlock=some g→¬S g):w'.ownsRow base e size v n xs:=by
 refine⟨h.1,?_⟩;rcases h.2 with hn|⟨g,cap,cur,rfl,hbg,hg,rest⟩
 ·exact .inl hn
 ·exact .inr ⟨g,cap,cur,rfl,hbg,by rw [hb.block g (Array.getElem?_eq_some_iff.1 hg).1 (hs g rfl)];exact hg,rest⟩
theorem xK(h:w.ownsRow base e size (.slice A n c) n xs)(hk:k≤n)(hn:A≠none):w.ownsRow base e size (.slice A k c) k (xs.take (k*size)):=by
 rcases h.2 with⟨i,_⟩|⟨g,j,b,i,l,m,o,d,f,a⟩
 ·injection i with hA
  exact absurd hA hn
 ·injection i with hA _ hc
  subst hA hc;refine⟨?_,.inr ⟨g,c,b,rfl,l,m,by omega,d,f,?_⟩⟩
  ·rw [Az,h.1];have:=Nat.mul_le_mul_right size hk;omega
  ·rw [←a,List.take_take]
   congr 1
   have:=Nat.mul_le_mul_right size hk;omega
end
theorem Cq{N:Nat}{S:Nat→Prop}{W W':World}(hb:Below N w W)(hf:Fr S W W')(hS:∀k,S k→N≤k)(hN:N≤w.heap.size:=by exact Nat.le_refl _):Below N w W':=
 hb.trans (hf.belowB (fun k hk e=>by have:=hS k e;omega) (Nat.le_trans hN hb.size))
def Bk(w:World)(g:Nat)(t:TypeId)(cs:Array Value):Prop:=w.heap[g]?=some (.cells cs t (0,0))
section
variable {w w':World} {S:Nat→Prop} {g:Nat} {t:TypeId} {cs:Array Value}
theorem Bk.lt(h:Bk w g t cs):g<w.heap.size:=by
 rcases Nat.lt_or_ge g w.heap.size with hlt|hge
 ·exact hlt
 ·unfold Bk at h;rw [Array.getElem?_eq_none hge] at h;cases h
theorem Bk.cell(h:Bk w g t cs)(i:Nat):w.cell? ⟨g,i,none⟩=cs[i]?:=cell_of_row w g i cs t (0,0) h
theorem Bk.c2{w:World}{g:Nat}{t:TypeId}{xa xb:Value}{zs:List Value}(h:Bk w g t (List.toArray (xa::xb::zs))):w.cell? ⟨g,0,none⟩=some xa∧w.cell? ⟨g,1,none⟩=some xb:=⟨h.cell 0,h.cell 1⟩
theorem Bk.c3{w:World}{g:Nat}{t:TypeId}{xa xb xc:Value}{zs:List Value}(h:Bk w g t (List.toArray (xa::xb::xc::zs))):w.cell? ⟨g,0,none⟩=some xa∧w.cell? ⟨g,1,none⟩=some xb∧w.cell? ⟨g,2,none⟩=some xc:=⟨h.cell 0,h.cell 1,h.cell 2⟩
theorem Bk.c4{w:World}{g:Nat}{t:TypeId}{xa xb xc xd:Value}{zs:List Value}(h:Bk w g t (List.toArray (xa::xb::xc::xd::zs))):w.cell? ⟨g,0,none⟩=some xa∧w.cell? ⟨g,1,none⟩=some xb∧w.cell? ⟨g,2,none⟩=some xc∧w.cell? ⟨g,3,none⟩=some xd:=⟨h.cell 0,h.cell 1,h.cell 2,h.cell 3⟩
theorem Bk.c5{w:World}{g:Nat}{t:TypeId}{xa xb xc xd xe:Value}{zs:List Value}(h:Bk w g t (List.toArray (xa::xb::xc::xd::xe::zs))):w.cell? ⟨g,0,none⟩=some xa∧w.cell? ⟨g,1,none⟩=some xb∧w.cell? ⟨g,2,none⟩=some xc∧w.cell? ⟨g,3,none⟩=some xd∧w.cell? ⟨g,4,none⟩=some xe:=⟨h.cell 0,h.cell 1,h.cell 2,h.cell 3,h.cell 4⟩
theorem Bk.c6{w:World}{g:Nat}{t:TypeId}{xa xb xc xd xe xf:Value}{zs:List Value}(h:Bk w g t (List.toArray (xa::xb::xc::xd::xe::xf::zs))):w.cell? ⟨g,0,none⟩=some xa∧w.cell? ⟨g,1,none⟩=some xb∧w.cell? ⟨g,2,none⟩=some xc∧w.cell? ⟨g,3,none⟩=some xd∧w.cell? ⟨g,4,none⟩=some xe∧w.cell? ⟨g,5,none⟩=some xf:=⟨h.cell 0,h.cell 1,h.cell 2,h.cell 3,h.cell 4,h.cell 5⟩
theorem Bk.c9{w:World}{g:Nat}{t:TypeId}{xa xb xc xd xe xf xg xh xi:Value}{zs:List Value}(h:Bk w g t (List.toArray (xa::xb::xc::xd::xe::xf::xg::xh::xi::zs))):w.cell? ⟨g,0,none⟩=some xa∧w.cell? ⟨g,1,none⟩=some xb∧w.cell? ⟨g,2,none⟩=some xc∧w.cell? ⟨g,3,none⟩=some xd∧w.cell? ⟨g,4,none⟩=some xe∧w.cell? ⟨g,5,none⟩=some xf∧w.cell? ⟨g,6,none⟩=some xg∧w.cell? ⟨g,7,none⟩=some xh∧w.cell? ⟨g,8,none⟩=some xi:=⟨h.cell 0,h.cell 1,h.cell 2,h.cell 3,h.cell 4,h.cell 5,h.cell 6,h.cell 7,h.cell 8⟩
theorem Bk.frozen(h:Bk w g t cs)(i:Nat):w.frozen? ⟨g,i,none⟩=false:=by
 unfold Bk at h;simp [World.frozen?,h]
theorem Bk.f2{w:World}{g:Nat}{t:TypeId}{cs:Array Value}(h:Bk w g t cs):w.frozen? ⟨g,0,none⟩=false∧w.frozen? ⟨g,1,none⟩=false:=⟨h.frozen 0,h.frozen 1⟩
theorem Bk.f3{w:World}{g:Nat}{t:TypeId}{cs:Array Value}(h:Bk w g t cs):w.frozen? ⟨g,0,none⟩=false∧w.frozen? ⟨g,1,none⟩=false∧w.frozen? ⟨g,2,none⟩=false:=⟨h.frozen 0,h.frozen 1,h.frozen 2⟩
theorem Bk.f4{w:World}{g:Nat}{t:TypeId}{cs:Array Value}(h:Bk w g t cs):w.frozen? ⟨g,0,none⟩=false∧w.frozen? ⟨g,1,none⟩=false∧w.frozen? ⟨g,2,none⟩=false∧w.frozen? ⟨g,3,none⟩=false:=⟨h.frozen 0,h.frozen 1,h.frozen 2,h.frozen 3⟩
theorem Bk.f6{w:World}{g:Nat}{t:TypeId}{cs:Array Value}(h:Bk w g t cs):w.frozen? ⟨g,0,none⟩=false∧w.frozen? ⟨g,1,none⟩=false∧w.frozen? ⟨g,2,none⟩=false∧w.frozen? ⟨g,3,none⟩=false∧w.frozen? ⟨g,4,none⟩=false∧w.frozen? ⟨g,5,none⟩=false:=⟨h.frozen 0,h.frozen 1,h.frozen 2,h.frozen 3,h.frozen 4,h.frozen 5⟩
theorem Bk.f9{w:World}{g:Nat}{t:TypeId}{cs:Array Value}(h:Bk w g t cs):w.frozen? ⟨g,0,none⟩=false∧w.frozen? ⟨g,1,none⟩=false∧w.frozen? ⟨g,2,none⟩=false∧w.frozen? ⟨g,3,none⟩=false∧w.frozen? ⟨g,4,none⟩=false∧w.frozen? ⟨g,5,none⟩=false∧w.frozen? ⟨g,6,none⟩=false∧w.frozen? ⟨g,7,none⟩=false∧w.frozen? ⟨g,8,none⟩=false:=⟨h.frozen 0,h.frozen 1,h.frozen 2,h.frozen 3,h.frozen 4,h.frozen 5,h.frozen 6,h.frozen 7,h.frozen 8⟩
theorem Bk.new(w:World)(t:TypeId)(cs:Array Value):Bk (w.alloc (.cells cs t)) w.heap.size t cs:=heap_alloc_new w _
theorem Bk.new_{g:Nat}(h:w.heap.size=g)(t:TypeId)(cs:Array Value):Bk (w.alloc (.cells cs t)) g t cs:=by subst h;exact Bk.new w t cs
theorem Bk.drew(h:Bk w g t cs):Bk w.drew g t cs:=h
theorem Bk.alloc(h:Bk w g t cs)(o:Obj):Bk (w.alloc o) g t cs:=(Below.heap_alloc w o g h.lt).trans h
theorem Bk.set_(h:Bk w g t cs)(i:Nat)(u:Value):Bk (w.setCell ⟨g,i,none⟩ u) g t (cs.setIfInBounds i u):=by
 unfold Bk at h⊢;simp [World.setCell,Array.getElem?_modify,h]
theorem Bk.far(h:Bk w g t cs)(hp:g≠p.block)(u:Value):Bk (w.setCell p u) g t cs:=(Below.heap_setCell w p u g hp).trans h
theorem Bk.pure(h:Bk w g t cs)(hb:Below w.heap.size w w'):Bk w' g t cs:=(hb.block g h.lt).trans h
theorem Bk.fr(h:Bk w g t cs)(hb:Fr S w w')(hg:¬S g):Bk w' g t cs:=(hb.block g h.lt hg).trans h
theorem Bk.ne_{g':Nat}{t':TypeId}{cs':Array Value}(h:Bk w g t cs)(h':Bk w g' t' cs')(hne:t≠t'):g≠g':=by
 rintro rfl;unfold Bk at h h';rw [h] at h';injection h' with h'
 injection h' with _ ht
 exact hne ht
theorem Jb(h:w.ownsRow base e size v n xs)(hg:Bk w g t cs)(hne:e≠t):v.ownBlock≠some g:=by
 rcases h.2 with⟨rfl,_⟩|⟨g',cap,cur,rfl,_,hh,_⟩
 ·simp [Value.ownBlock]
 ·intro he;have:g'=g:=by simpa [Value.ownBlock] using he
  subst this;exact Bk.ne_ (t:=e) hh hg hne rfl
end
section
variable {P:Program} (w:World)
theorem No(base:Nat)(t ty e:TypeId)(i:TypeInfo)(z:Value)(size bytes:Nat)(ht:P.underlying t=some (.slice e))(hi:P.info? e=some i)(hz:i.zero=some z)
  (hsize:i.size=size) (hby:i.bytes=bytes) (hzs:z.cells.size=size) (hsz:0<size)
  (v:Value) (n:Nat) (xs:List Value) (hown:w.ownsRow base e size v n xs)
  (A:Option Addr) (m c:Nat) (news:List Value) (hl:news.length=m*size) (hr:Rd w A news) (h1:∀u∈news,u.oneCell'=true)
  (h63:n+m≤maxLen) (hbytes:(n+m)*bytes≤140737488355328) (hbase:base≤w.heap.size):
  ∃v' w',(Builtin.append_ #[t,t] ty #[v,.slice A m c]).run P w= .ok v' w'∧w'.ownsRow base e size v' (n+m) (xs++news)∧w.grownBy w' v.ownBlock∧
   (v'.ownBlock=v.ownBlock∨v'.ownBlock=some w.heap.size):=by
 rcases Nat.eq_zero_or_pos m with rfl|o
 ·have p:news=[]:=List.eq_nil_of_length_eq_zero (by simpa using hl);subst p;refine⟨v,w,?_,by simpa using hown,⟨rfl,rfl,rfl,Ae _,fun _ _ _=>rfl⟩,.inl rfl⟩;rcases hown.2 with⟨rfl,rfl⟩|⟨g,j,k,rfl,_,_,f,_⟩
  ·cases A <;>simp [Builtin.append_,run_underlying ht,sizeOf,typeInfo,hi,Builtin.lenOf,Builtin.firstCells,loadCells,loadCellsFrom]
  ·cases A <;>simp [Builtin.append_,run_underlying ht,sizeOf,typeInfo,hi,Builtin.lenOf,Builtin.firstCells,f,storeCells,loadCells,loadCellsFrom]
 ·have a:0<news.length:=by rw [hl];exact Nat.mul_pos o hsz
  obtain⟨b,h,rfl,_⟩:=hr.lt a;obtain⟨v',w',d,h2,h3,_,l⟩:=run_append_own_at (P:=P) w base t ty e i z size bytes ht hi hz hsize hby hzs hsz v n xs hown ⟨b,h,none⟩ m c news hl hr.cells h1 h63 hbytes hbase;exact⟨v',w',d,h2,h3,l⟩
theorem pC(hgd:Region.wanted o (yielded ops a.tmps)=true)(s x:Operand)(t:TypeId)
  (ho:o.op= .call { callee:= .builtin .append,args:=#[s,x],argTypes:=#[t,t]})
  (base:Nat) (e:TypeId) (z:Value) (size bytes:Nat) (ht:P.underlying t=some (.slice e)) (hi:(P.info? e).map (fun i=>(i.zero,i.size,i.bytes))=some (some z,size,bytes))
  (hzs:z.cells.size=size) (hsz:0<size)
  (v:Value) (n:Nat) (xs:List Value) (hs:a.eval s=v) (hown:w.ownsRow base e size v n xs)
  (A:Option Addr) (m c:Nat) (news:List Value) (hx:a.eval x= .slice A m c) (hl:news.length=m*size) (hr:Rd w A news) (h1:∀u∈news,u.oneCell'=true)
  (h63:n+m≤maxLen) (hbytes:(n+m)*bytes≤140737488355328) (hbase:base≤w.heap.size)
  (h:∀v' w',w'.ownsRow base e size v' (n+m) (xs++news)→w.grownBy w' v.ownBlock→(v'.ownBlock=v.ownBlock∨v'.ownBlock=some w.heap.size)→wpList P ops Q rest (a.put o.dst v') w'):
  wpList P ops Q (o::rest) a w:=by
 obtain⟨i,g,k,b,f⟩:=info_parts hi;refine BigFrame.wpList_want hgd fun _ hK=>?_
 obtain⟨v',w',d,h2,h3,j⟩:=No (P:=P) w base t o.type e i z size bytes ht g k b f hzs hsz v n xs hown A m c news hl hr h1 h63 hbytes hbase;unfold Oper.wp execOp;simp only [ho,resolve,invoke,builtin,Sem.run_bind,Sem.run_pure,Result.andThen_ok,List.map_toArray,List.map_cons,List.map_nil,hs,hx,d];exact hK _ _ (h v' w' h2 h3 j)
end
theorem Vn(h:w.ownsRow base e size v n xs):∃A c,v= .slice A n c∧n≤c∧c≤maxLen∧(∀ad,A=some ad→ad=⟨ad.block,0,none⟩∧base≤ad.block∧ad.block<w.heap.size):=by
 rcases h.2 with⟨rfl,rfl⟩|⟨g,a,f,rfl,i,j,d,b,_⟩
 ·exact⟨none,0,rfl,Ae _,Nat.zero_le _,fun ad h=>by cases h⟩
 ·exact⟨_,a,rfl,d,b,fun ad h=>by injection h with h;subst h;exact⟨rfl,i,(Array.getElem?_eq_some_iff.1 j).1⟩⟩
section
variable {α:Type} {f:α→List Value} {sz:Nat}
theorem Cm(hf:∀x,(f x).length=sz)(l:List α):(l.flatMap f).length=l.length*sz:=by
 induction l with
 |nil=>simp
 |cons x l ih=>rw [List.flatMap_cons,Ah,hf,ih,Au,Nat.succ_mul,Nat.add_comm]
theorem N0(hf:∀x,(f x).length=sz)(l:List α)(k:Nat):(l.take k).flatMap f=(l.flatMap f).take (k*sz):=by
 induction l generalizing k with
 |nil=>simp
 |cons x l ih=>
  cases k with
  |zero=>simp
  |succ k=>
   rw [List.take_succ_cons,List.flatMap_cons,List.flatMap_cons,ih,List.take_append,hf,Nat.succ_mul,Nat.add_sub_cancel,Bb (l:=f x) (by rw [hf];exact Nat.le_add_left _ _)]
theorem P0(hf:∀x,(f x).length=sz)(l:List α)(k:Nat):(l.drop k).flatMap f=(l.flatMap f).drop (k*sz):=by
 induction l generalizing k with
 |nil=>simp
 |cons x l ih=>
  cases k with
  |zero=>simp
  |succ k=>
   rw [List.drop_succ_cons,List.flatMap_cons,ih,List.drop_append,hf,Nat.succ_mul,Nat.add_sub_cancel,List.drop_eq_nil_of_le (show(f x).length≤k*sz+sz by rw [hf];exact Nat.le_add_left _ _),A6]
theorem Ip(hf:∀x,(f x).length=sz)(l:List α)(k j:Nat)(hk:k<l.length)(hj:j<sz):(l.flatMap f)[k*sz+j]?=(f l[k])[j]?:=by
 have h:=P0 hf l k;rw [List.drop_eq_getElem_cons hk,List.flatMap_cons] at h;rw [←List.getElem?_drop,←h,Bh (by rw [hf];exact hj)]
theorem Sv(h1:∀x,∀u∈f x,u.oneCell'=true)(l:List α):∀u∈l.flatMap f,u.oneCell'=true:=by
 intro u hu;obtain⟨x,_,hx⟩:=List.mem_flatMap.1 hu;exact h1 x u hx
def Is(f:α→List Value)(w:World)(A:Option Addr)(n:Nat)(l:List α):Prop:=l.length=n∧Rd w A (l.flatMap f)
def Own(f:α→List Value)(sz:Nat)(e:TypeId)(w:World)(B:Nat)(A:Option Addr)(n c:Nat)(l:List α):Prop:=l.length=n∧w.ownsRow B e sz (.slice A n c) n (l.flatMap f)
variable {w w':World} {A:Option Addr} {n c B:Nat} {l:List α} {e:TypeId} {S:Nat→Prop}
theorem Is.pure(h:Is f w A n l)(hb:Below w.heap.size w w'):Is f w' A n l:=⟨h.1,h.2.pure hb⟩
theorem Is.fr(h:Is f w A n l)(hb:Fr S w w')(hs:∀ad,A=some ad→¬S ad.block):Is f w' A n l:=⟨h.1,h.2.fr hb hs⟩
theorem Is.drewN(h:Is f w A n l)(k:Nat):Is f (w.drewN k) A n l:=h
theorem Is.alloc(h:Is f w A n l)(o:Obj):Is f (w.alloc o) A n l:=⟨h.1,h.2.alloc o⟩
theorem Is.nil(w:World)(A:Option Addr):Is f w A 0 []:=⟨rfl,Rd.nil w A⟩
theorem Is.none_(hf:∀x,(f x).length=sz)(hz:0<sz)(h:Is f w none n l):l=[]∧n=0:=by
 cases l with
 |nil=>exact⟨rfl,h.1.symm⟩
 |cons x l=>
  have hp:0<((x::l).flatMap f).length:=by rw [Cm hf,Au,Nat.succ_mul];omega
  obtain⟨b,off,e,_⟩:=h.2.lt hp;cases e
theorem Is.some_(hf:∀x,(f x).length=sz)(hz:0<sz)(h:Is f w A n l)(hn:0<n):∃b off,A=some ⟨b,off,none⟩∧b<w.heap.size:=by
 have hp:0<(l.flatMap f).length:=by rw [Cm hf,h.1];exact Nat.mul_pos hn hz
 exact h.2.lt hp
theorem Is.at_(hf:∀x,(f x).length=sz)(hz:0<sz)(h:Is f w A n l)(hk:k<n):
  ∃b off,A=some ⟨b,off,none⟩∧∃hk:k<l.length,∀j,j<sz→w.cell? ⟨b,off+k*sz+j,none⟩=(f l[k])[j]?:=by
 obtain⟨b,off,rfl,_⟩:=h.some_ hf hz (by omega);have a:k<l.length:=by rw [h.1];exact hk
 refine⟨b,off,rfl,a,fun j hj=>?_⟩;have e:=Ip hf l k j a hj;have d:(f l[k])[j]?=some ((f l[k])[j]'(by rw [hf];exact hj)):=Ag _;rw [d] at e⊢;obtain⟨m,g,c,i⟩:=h.2 _ _ e;injection c with c;injection c with e1 e2;subst e1 e2
 rw [Nat.add_assoc];exact i
theorem Is.take(hf:∀x,(f x).length=sz)(h:Is f w A n l)(hk:k≤n):Is f w A k (l.take k):=⟨by rw [Az,h.1];omega,by rw [N0 hf];exact h.2.take _⟩
theorem Is.cut0(h:Is f w A n l)(hk:c=k)(hc:n≤c):Is f w A (n-k) (l.drop k):=by
 have:=h.1;rw [List.drop_eq_nil_of_le (by omega)];exact⟨by simp;omega,Rd.nil _ _⟩
theorem Is.cut1(hf:∀x,(f x).length=sz)(h:Is f w A n l):Is f w (A.map fun x=>x.add (k*sz)) (n-k) (l.drop k):=by
 refine⟨by rw [List.length_drop,h.1],?_⟩;rw [P0 hf];have:=h.2.drop (k*sz) (c:=1) (k:=0) (by omega);simpa using this
theorem Own.is(h:Own f sz e w B A n c l):Is f w A n l:=⟨h.1,Rd.of_own h.2⟩
theorem Own.pure(h:Own f sz e w B A n c l)(hb:Below w.heap.size w w'):Own f sz e w' B A n c l:=⟨h.1,xF h.2 hb⟩
theorem Own.fr(h:Own f sz e w B A n c l)(hb:Fr S w w')(hs:∀ad,A=some ad→¬S ad.block):Own f sz e w' B A n c l:=⟨h.1,Adk h.2 hb (fun g hg=>by
 cases A with
 |none=>simp [Value.ownBlock] at hg
 |some ad=>simp [Value.ownBlock] at hg;subst hg;exact hs ad rfl)⟩
theorem Own.rebase{B':Nat}(h:Own f sz e w B A n c l)(hb:B'≤B):Own f sz e w B' A n c l:=⟨h.1,oE h.2 hb⟩
theorem Own.nil(w:World)(B:Nat):Own f sz e w B none 0 0 []:=⟨rfl,World.ownsRow_nil _ _ _ _⟩
theorem Own.cap(h:Own f sz e w B A n c l):n≤c∧c≤maxLen:=by
 obtain⟨_,_,e,h1,h2,_⟩:=Vn h.2;injection e with _ _ e
 omega
theorem Own.addr(h:Own f sz e w B A n c l):∀ad,A=some ad→ad=⟨ad.block,0,none⟩∧B≤ad.block∧ad.block<w.heap.size:=by
 obtain⟨A',_,e,_,_,h3⟩:=Vn h.2;injection e with e
 subst e;exact h3
theorem Own.take(hf:∀x,(f x).length=sz)(h:Own f sz e w B A n c l)(hk:k≤n):Own f sz e w B A k c (l.take k):=by
 refine⟨by rw [Az,h.1];omega,?_⟩;rw [N0 hf];cases A with
 |none=>
  rcases h.2.2 with⟨hv,hn⟩|⟨_,_,_,hv,_⟩
  ·injection hv with _ h1 h2
   subst hn h2;obtain rfl:k=0:=by omega
   exact⟨by simp,.inl ⟨rfl,rfl⟩⟩
  ·cases hv
 |some ad=>exact xK h.2 hk (by simp)
theorem Own.mk(hf:∀x,(f x).length=sz)(hz:0<sz)(h:w.ownsRow B e sz v n xs)(hx:xs=l.flatMap f):∃A c,v= .slice A n c∧Own f sz e w B A n c l:=by
 subst hx;have hl:=h.1;rw [Cm hf] at hl;obtain⟨A,c,rfl,_⟩:=Vn h;exact⟨A,c,rfl,Nat.eq_of_mul_eq_mul_right hz hl,h⟩
end
section
variable {α:Type} {f:α→List Value} {P:Program} (w:World)
theorem Eb(hgd:Region.wanted o (yielded ops a.tmps)=true)(s x:Operand)(t:TypeId)
  (ho:o.op= .call { callee:= .builtin .append,args:=#[s,x],argTypes:=#[t,t]})
  (e:TypeId) (z:Value) (sz bytes:Nat) (ht:P.underlying t=some (.slice e)) (hi:(P.info? e).map (fun i=>(i.zero,i.size,i.bytes))=some (some z,sz,bytes))
  (hzs:z.cells.size=sz) (hsz:0<sz) (hf:∀x,(f x).length=sz) (h1:∀x,∀u∈f x,u.oneCell'=true)
  (B:Nat) (A:Option Addr) (n c:Nat) (l:List α) (hs:a.eval s= .slice A n c) (hown:Own f sz e w B A n c l)
  (A2:Option Addr) (m d:Nat) (l2:List α) (hx:a.eval x= .slice A2 m d) (hr:Is f w A2 m l2)
  (hbytes:(n+m)*(bytes+1)≤140737488355328) (hbase:B≤w.heap.size)
  (h:∀A' c' w',Own f sz e w' B A' (n+m) c' (l++l2)→Fr (fun k=>∃ad,A=some ad∧k=ad.block) w w'→
   (A'.map (·.block)=A.map (·.block)∨A'.map (·.block)=some w.heap.size)→wpList P ops Q rest (a.put o.dst (.slice A' (n+m) c')) w'):
  wpList P ops Q (o::rest) a w:=by
 have j:(n+m)*bytes≤140737488355328:=Nat.le_trans (Nat.mul_le_mul_left _ (Nat.le_succ _)) hbytes;have p:n+m≤maxLen:=by
  have:n+m≤(n+m)*(bytes+1):=Nat.le_mul_of_pos_right _ (Nat.succ_pos _);simp only [maxLen];omega
 refine pC w hgd s x t ho B e z sz bytes ht hi hzs hsz _ n (l.flatMap f) hs hown.2 A2 m d (l2.flatMap f) hx (by rw [Cm hf,hr.1]) hr.2 (Sv h1 l2) p j hbase ?_;intro q w' h2 h3 g;obtain⟨A',c',rfl,b⟩:=Own.mk hf hsz (l:=l++l2) h2 List.flatMap_append.symm;refine h A' c' w' b ((Fr.of_grown h3).mono fun i _ hi=>?_) ?_
 ·cases A with
  |none=>simp [Value.ownBlock] at hi
  |some ad=>simp [Value.ownBlock] at hi;exact⟨ad,rfl,hi⟩
 ·cases A <;>cases A' <;>simp only [Value.ownBlock,Option.map] at g⊢ <;>exact g
end
theorem Hh{k:IntKind}{a b:Int}(h:a=b):Ending.returned (.int k a)= .returned (.int k b):=by rw [h]
theorem Dw{a b:Bool}(h:a=b):Ending.returned (.bool a)= .returned (.bool b):=by rw [h]
end Go.Acc
namespace Go.Acc
variable {t:Int}
def zO:List (Int×Int×Int):=
 [(1,0,0),(1,0,0),(1,0,0),(0,0,0),(2,0,0),(2,0,0),(2,0,0),(2,0,0),(0,0,0),(2,0,0),(2,0,0),(3,1,0),(3,2,0),(0,0,0),(3,4,0),(0,0,0),
 (3,1,2),(3,2,2),(0,0,0),(3,1,3),(3,2,3),(0,0,0),(3,1,4),(3,2,4),(0,0,0),(2,0,0),(1,0,0),(0,0,0),(0,0,0),(0,0,0),(0,0,0),(0,0,0),(0,0,0),(0,0,0),(0,0,0),(0,0,0),(3,26,0)]
def Adx:List Int:=[1,3,4,0,5,6,8,9,0,17,10,11,12,0,13,0,15,16,0,15,16,0,15,16,0,7,2,0,0,0,0,0,0,0,0,0,14]
def Lt(t:Int):Bool:=decide (0≤t∧t<37)
def G8(t:Int):Int×Int×Int:=if Lt t=true then zO.getD t.toNat (0,0,0) else(0,0,0)
def Cb(t:Int):Bool:=(G8 t).1 != 0
def Bq(t:Int):Bool:=(G8 t).1==1
def Tn(t:Int):Bool:=(G8 t).1==3
def E9(t:Int):Int:=(G8 t).2.1
def Df(t:Int):Int:=(G8 t).2.2
def Cs(t:Int):Int:=if Lt t=true then Adx.getD t.toNat 0 else 0
def t37:List Int:=[0,1,2,3,4,5,6,7,8,9,10,11,12,13,14,15,16,17,18,19,20,21,22,23,24,25,26,27,28,29,30,31,32,33,34,35,36]
theorem Hg:Lt t=true↔0≤t∧t<37:=by simp [Lt]
theorem Lc{p:Int→Prop}(h:∀n:Fin 37,p ((n.val:Nat):Int))(ht:Lt t=true):p t:=by
 have ht:=Hg.1 ht;obtain⟨n,rfl⟩:=Int.eq_ofNat_of_zero_le ht.1;exact h ⟨n,by omega⟩
theorem Yr(h:Lt t=false):G8 t=(0,0,0):=by simp [G8,h]
theorem Ic(h:Cb t=true):Lt t=true:=by
 cases e:Lt t with
 |true=>rfl
 |false=>simp [Cb,Yr e] at h
theorem Ls(h:Bq t=true):Cb t=true:=by
 unfold Bq at h;unfold Cb;rw [eq_of_beq h];rfl
def Ng(c:UInt8):Int:=if Cb ((c.toNat:Int)/4)=true then(c.toNat:Int)/4 else 0
def Nh(c:UInt8):Int:=if Cb ((c.toNat:Int)/4)=true then 2^(c.toNat % 4) else 0
def Iv(c:UInt8):Int:=if Cb ((c.toNat:Int)/4)=true then 0 else 20
end Go.Acc
namespace Go.Proofs.YtejpbijeifjdeaaGreat
open Go.RowKit Go.Acc
variable {w:World}{A:Option Addr}{n k off:Nat}{l:List UInt8}{v:Value}{cur cur':Array Value}{vs:List Value}
def bc(c:UInt8):List Value:=[.int .u8 (c.toNat:Int)]
theorem D1(x:UInt8):(bc x).length=1:=rfl
theorem Sc(x:UInt8):∀u∈bc x,u.oneCell'=true:=by
 intro u hu;simp [bc] at hu;rw [hu];rfl
abbrev Cv:=Is bc
abbrev I5:=Own bc 1 5
theorem Je(h:Cv w A n l)(hk:k<n):
  ∃b off,A=some ⟨b,off,none⟩∧∃hk:k<l.length,w.cell? ⟨b,off+k,none⟩=some (.int .u8 (l[k].toNat:Int)):=by
 obtain⟨b,off,e,hk',hc⟩:=h.at_ D1 (by omega) hk;have:=hc 0 (by omega);rw [Nat.mul_one,Nat.add_zero] at this;exact⟨b,off,e,hk',this⟩
def Bz(w:Int):Bool:=decide (w=1∨w=2∨w=4∨w=8)
theorem Cr{w:Int}:Bz w=true↔w=1∨w=2∨w=4∨w=8:=by simp [Bz]
theorem rT{w:Int}:Bz w=false↔w≠1∧w≠2∧w≠4∧w≠8:=by simp [Bz];
theorem Mj(x:Int)(w:World):Calls Ad 58 #[Aa Ab x] w (Afd (.bool (Bz x)) w):=by
 by_cases h1:x=1
 ·subst h1;go_enter func58,ntmps58;go_wp2;go_ret;exact⟨rfl,rfl⟩
 by_cases h2:x=2
 ·subst h2;go_enter func58,ntmps58;go_wp2;go_ret;exact⟨rfl,rfl⟩
 by_cases a:x=4
 ·subst a;go_enter func58,ntmps58;go_wp2;go_ret;exact⟨rfl,rfl⟩
 by_cases b:x=8
 ·subst b;go_enter func58,ntmps58;go_wp2;go_ret;exact⟨rfl,rfl⟩
 have H:=Hd (rT.2 ⟨h1,h2,a,b⟩);have c:(x==1)=false:=by simpa using h1
 have d:(x==2)=false:=by simpa using h2
 have e:(x==4)=false:=by simpa using a
 have f:(x==8)=false:=by simpa using b
 clear h1 h2 a b;go_enter func58,ntmps58;go_wp2;go_ret;exact⟨Dw H.o.symm,rfl⟩
def Cy(n:Nat)(at_ w:Int):Int:=if Bz w=true then(if 0≤at_∧at_+w≤n then 0 else 6) else 2
theorem uK(A:Option Addr)(n c:Nat)(a x:Int)(f:Value)(w:World)(h:Cy n a x≠0)(hn:n≤9223372036854775807):
  Calls Ad 247 #[.slice A n c,Aa Ab a,Aa Ab x,f] w (Afd (Aa Ab (Cy n a x)) w):=by
 by_cases b:Bz x=true
 ·have g:=Cr.1 b;have j:¬(0≤a∧a+x≤n):=by intro l;simp [Cy,b,l] at h
  have H:=Hd (show Cy n a x=6 by simp only [Cy,b,if_true,if_neg j]);have i:=Hd b;have p:1≤x:=by omega
  have m:x≤8:=by omega
  rw [H.o];by_cases h0:a<0
  ·clear h b g j;go_enter func247,ntmps247;go_wp2_with (go_at_call 58;refine(Mj x _).mono ?_;rw [i.o];rintro e k ⟨rfl,rfl⟩);go_ret;exact⟨rfl,rfl⟩
  ·have h1:(n:Int)-x<a:=by omega
   clear h b g j;go_enter func247,ntmps247;go_wp2_with (go_at_call 58;refine(Mj x _).mono ?_;rw [i.o];rintro e k ⟨rfl,rfl⟩);go_ret;exact⟨rfl,rfl⟩
 ·have d:Bz x=false:=by simpa using b
  have H:=Hd (show Cy n a x=2 by simp [Cy,d]);have i:=Hd d;rw [H.o];clear h b d;go_enter func247,ntmps247;go_wp2_with (go_at_call 58;refine(Mj x _).mono ?_;rw [i.o];rintro e k ⟨rfl,rfl⟩);go_ret;exact⟨rfl,rfl⟩
theorem oZ(A:Option Addr)(n c a x:Nat)(F:Nat)(caps:Array Value)(w:World)(R:Ending→World→Prop)(hw:Bz x=true)(hr:a+x≤n)(hc:n≤c)(hn:n≤9223372036854775807)
  (hF:∀(args:Array Value) (w:World),(callFunc F args).run Ad w= .ok (.enter F args) w)
  (h:Calls Ad F (#[.slice (A.map fun p=>p.add a) x (c-a)]++caps) w fun e w'=>(∃v:Int,e= .returned (Aa Ab v))∧R e w'):
  Calls Ad 247 #[.slice A n c,Aa Ab a,Aa Ab x,.func (.func F) #[] caps] w R:=by
 have b:(1:Int)≤x∧(x:Int)≤8:=by have:=Cr.1 hw;omega
 have j:¬c=a:=by omega
 have l:=b.1;have k:=b.2;have i:=Hd hw;have f:=Hd h;clear b hw h;go_enter func247,ntmps247;go_wp2_with (go_at_call 58;refine(Mj x _).mono ?_;rw [i.o];rintro e w' ⟨rfl,rfl⟩);refine f.o.mono ?_;rintro e w' ⟨⟨v,rfl⟩,d⟩;have g:=Hd d;clear d hF;go_wp2;exact g.o
def Fe:List UInt8→Nat
 | []=>0
 |c::l=>c.toNat+256*Fe l
theorem Ws(l:List UInt8)(c:UInt8):Fe (l++ [c])=Fe l+c.toNat*2^(8*l.length):=by
 induction l with
 |nil=>simp [Fe]
 |cons d l ih=>
  simp only [List.cons_append,Fe,ih,Au];rw [show 8*(l.length+1)=8*l.length+8 by omega,Nat.pow_add,Nat.mul_add,show(2:Nat)^8=256 by rfl];rw [Nat.mul_comm (2^(8*l.length)) 256,Nat.mul_left_comm];omega
theorem Vd(l:List UInt8):Fe l<2^(8*l.length):=by
 induction l with
 |nil=>simp [Fe]
 |cons d l ih=>
  have:=d.toNat_lt;rw [Fe,Au,show 8*(l.length+1)=8*l.length+8 by omega,Nat.pow_add,show(2:Nat)^8=256 by rfl];omega
theorem Aay(u c:Nat)(k:Nat)(hu:u<2^(8*k)):u|||(c<<<(8*k))=u+c*2^(8*k):=by
 rw [Nat.or_comm,←Nat.shiftLeft_add_eq_or_of_lt hu,Nat.shiftLeft_eq,Nat.add_comm]
theorem De(n:Int)(h:0≤n∧n≤18446744073709551615):IntKind.u64.wrap n=n:=by
 rw [IntKind.wrap_u64];omega
theorem Aei(u c k:Nat)(hk:k<8)(hu:u<2^(8*k))(hc:c<256):bits .or .u64 (u:Int) (IntKind.u64.wrap (IntKind.u64.wrap (c:Int)*2^(8*k)))=((u+c*2^(8*k):Nat):Int):=by
 have d:2^(8*k)≤2^56:=Nat.pow_le_pow_right (by omega) (by omega);have h1:c*2^(8*k)≤255*2^56:=Nat.mul_le_mul (by omega) d;have a:IntKind.u64.wrap (c:Int)=c:=De _ (by omega);have b:(c:Int)*2^(8*k)=((c*2^(8*k):Nat):Int):=by simp
 rw [a,b,De _ (by omega)];rw [u64_or_nat _ _ (by omega) (by omega),←Aay u c k hu,Nat.shiftLeft_eq]
theorem nU(A:Option Addr)(n c ub:Nat)(l:List UInt8)(w:World)(hl:Cv w A n l)(hn:n≤8)(hu:Bk w ub 26 #[Aa Ac 0])(hne:∀ad,A=some ad→ad.block≠ub):
  Calls Ad 248 #[.slice A n c,Afh ub] w fun e w'=>(∃v:Int,e= .returned (Aa Ab v))∧e= .returned (Aa Ab 0)∧Bk w' ub 26 #[Aa Ac (Fe l)]∧Fr (fun k=>k=ub) w w':=by
 have m:=Hd hl;have d:=Hd hu;have B:=Hd hne;clear hl hu hne;go_enter func248,ntmps248;go_wp2;go_loopw [8] (fun i wr=>∃k:Nat,k≤n∧i= Aa Ab k∧Bk wr ub 26 #[Aa Ac (Fe (l.take k))]∧Cv wr A n l∧Fr (fun k=>k=ub) w wr) (fun i _=>n-(intOf i).toNat)
 case atStart=>exact⟨0,by omega,rfl,d.o,m.o,Fr.refl _ _⟩
 case round=>
  obtain⟨k,E,rfl,a,f,g⟩:=hrel;by_cases r:k<n
  ·obtain⟨b,s,rfl,q,C⟩:=Je f r;have F:wr.cell? ⟨ub,0,none⟩=some (Aa Ac (Fe (l.take k))):=a.cell 0;have D:=a.frozen 0;have d:=Hd a;have m:=Hd f;have j:=Hd g;clear a f g;have p:=Aei (Fe (l.take k)) l[k].toNat k (by omega) (by have:=Vd (l.take k);rwa [Az,Nat.min_eq_left (by omega)] at this) l[k].toNat_lt;have t:Fe (l.take k)+l[k].toNat*2^(8*k)=Fe (l.take (k+1)):=by
    rw [List.take_succ_eq_append_getElem q,Ws,Az,Nat.min_eq_left (by omega)]
   rw [t] at p;have z:=Hd p;clear p t;go_wp2;go_region;rw [z.o];have y:Fr (fun k=>k=ub) w ((wr.setCell ⟨ub,0,none⟩ (Aa Ac (Fe (l.take (k+1))))).drew):=(Fr.setCell (S:=fun k=>k=ub) j.o (fun _=>rfl) _).drew;have u:Bk ((wr.setCell ⟨ub,0,none⟩ (Aa Ac (Fe (l.take (k+1))))).drew) ub 26 #[Aa Ac (Fe (l.take (k+1)))]:=(d.o.set_ 0 (Aa Ac (Fe (l.take (k+1)))));have x:Cv ((wr.setCell ⟨ub,0,none⟩ (Aa Ac (Fe (l.take (k+1))))).drew) (some ⟨b,s,none⟩) n l:=(m.o.fr (S:=fun k=>k=ub) (Fr.setCell (S:=fun k=>k=ub) (Fr.refl _ _) (fun _=>rfl) _).drew (B.o));have h:=Hd (And.intro y (And.intro u x));clear y u x;go_wp2;go_roundw
   case rel=>exact⟨k+1,by omega,by go_num,h.o.2.1,h.o.2.2,h.o.1⟩
   case measure=>simp [intOf];omega
  ·obtain rfl:k=n:=by omega
   rw [Bb (by rw [f.1];exact Ae _)] at a;have d:=Hd a;have j:=Hd g;clear a f g;go_wp2;go_ret;exact⟨⟨0,rfl⟩,rfl,d.o,j.o⟩
def loadU(l:List UInt8)(a w:Int):Nat:=if Bz w=true∧0≤a∧a+w≤l.length then Fe ((l.drop a.toNat).take w.toNat) else 0
theorem Wx(l:List UInt8)(a w:Int):(∃k x:Nat,a=k∧w=x∧Bz (x:Int)=true∧k+x≤l.length∧1≤x∧x≤8∧Cy l.length a w=0∧loadU l a w=Fe ((l.drop k).take x))∨(Cy l.length a w≠0∧loadU l a w=0∧¬(Bz w=true∧0≤a∧a+w≤l.length)):=by
 by_cases h:Bz w=true∧0≤a∧a+w≤l.length
 ·obtain⟨h1,h2,h3⟩:=h;have b:=Cr.1 h1;obtain⟨k,rfl⟩:=Int.eq_ofNat_of_zero_le h2;obtain⟨x,rfl⟩:=Int.eq_ofNat_of_zero_le (a:=w) (by omega);exact .inl ⟨k,x,rfl,rfl,h1,by omega,by omega,by omega,by simp only [Cy,h1,if_true];exact if_pos ⟨h2,h3⟩,by unfold loadU;rw [if_pos ⟨h1,h2,h3⟩];rfl⟩
 ·refine .inr ⟨?_,if_neg h,h⟩;intro e;unfold Cy at e;split at e
  ·rename_i h1;split at e
   ·rename_i h2;exact h ⟨h1,h2⟩
   ·cases e
  ·cases e
theorem Oj{x:Nat}(h:Cv w A n l)(hk:k+x≤n):Cv w (A.map fun p=>p.add k) x ((l.drop k).take x):=by
 have h1:=(h.cut1 D1 (k:=k)).take D1 (k:=x) (by omega);simpa [Nat.mul_one] using h1
theorem sO{ad:Addr}(h:(A.map fun p=>p.add k)=some ad):∃a,A=some a∧ad.block=a.block:=by
 cases A with
 |none=>cases h
 |some a=>
  injection h with h
  subst h;exact⟨a,rfl,by show(a.add k).block=_;unfold Addr.add;split <;>rfl⟩
theorem K7(A:Option Addr)(n c:Nat)(a x:Int)(l:List UInt8)(w:World)(hl:Cv w A n l)(hc:n≤c)(hn:n≤9223372036854775807):
  Calls Ad 149 #[.slice A n c,Aa Ab a,Aa Ab x] w (Afc (.tuple #[Aa Ac (loadU l a x),Aa Ab (Cy n a x)]) w):=by
 have f:=hl.1;subst f;rcases Wx l a x with⟨k,y,rfl,rfl,h1,h2,h3,C,b,d⟩|⟨b,d,z⟩
 ·rw [b,d];have p:=Hd hl;have u:=Hd h1;have j:=Hd h2;clear hl b d h1;go_enter func149,ntmps149;go_wp2_with fail;refine(oZ A l.length c k y 248 #[Afh w.heap.size] _ (fun e w'=>e= .returned (Aa Ab 0)∧Bk w' w.heap.size 26 #[Aa Ac (Fe ((l.drop k).take y))]∧Fr (fun k=>k=w.heap.size) (w.alloc (.cells #[Aa Ac 0] 26)) w') u.o j.o hc hn Tryz.call248
   (nU _ y _ w.heap.size _ _ (Oj (p.o.alloc _) j.o) C (Bk.new w _ _) (fun ad h=>?_))).mono ?_
  ·obtain⟨G,B,e⟩:=sO h;obtain⟨H,r,g,m⟩:=p.o.some_ D1 (by omega) (by have:=j.o;omega);rw [B] at g;injection g with g
   subst g;show ad.block≠w.heap.size;rw [e];exact Nat.ne_of_lt m
  ·rintro e E ⟨rfl,i,q⟩;have D:E.cell? ⟨w.heap.size,0,none⟩=some (Aa Ac (Fe ((l.drop k).take y))):=i.cell 0;have I:=i.frozen 0;have F:=Hd i;have t:=Hd q;clear i q;go_wp2;refine bodyPost_ret (v:= .tuple #[Aa Ac (Fe ((l.drop k).take y)),Aa Ab 0]) (by simp [results,results149,go_sem,D]) rfl ⟨rfl,?_⟩;refine Cq ((Af _ _).alloc (Ae _) _) (Fr.setCell (S:=fun k=>k=w.heap.size) t.o (fun _=>rfl) _) ?_;rintro J rfl;exact Ae _
 ·rw [d];have s:=Hd b;clear hl b d z;go_enter func149,ntmps149;go_wp2_with fail;refine(uK A l.length c a x _ _ s.o hn).mono ?_;rintro e w' ⟨rfl,rfl⟩;go_wp2;refine bodyPost_ret (v:= .tuple #[Aa Ac 0,Aa Ab (Cy l.length a x)]) (by simp [results,results149,go_sem]) rfl ⟨rfl,?_⟩;exact(Af _ _).alloc (Ae _) _
def L0:Array Value:=(zO.flatMap fun r=>[Aa Ab r.1,Aa Ab r.2.1,Aa Ab r.2.2]).toArray
def oP:Array Value:=Array.replicate 111 (Aa Ab 0)
theorem Aep:(Ad.info? 264).map (fun i=>(i.zero,i.size))=some (some (Value.agg oP),111):=by kernel_rfl
theorem gO{P:Program}{o:Oper}{a:Act}{next:Act→World→Prop}{Q:Exit→Act→World→Prop}{r:Result Unit}{w':World}(h:r= .ok () w')(hk:next (a.put o.dst undef) w'):
  o.upon P a next Q (r.andThen fun _ w'=> .ok .skip w'):=by subst h;exact hk
theorem Uv(w:World):Calls Ad 243 #[] w (Afc (.agg L0) w):=by
 have c:=(zero_of_info Aep).1;have a:oP.size=111:=rfl;go_enter func243,ntmps243;go_wp2;refine gO (w':=w.alloc (.cells L0 264)) ?_ ?_
 ·refine Eq.trans ?_ (run_storeCells_new (P:=Ad) w 264 oP L0 (by kernel_rfl) (by kernel_rfl) (by kernel_rfl))
  kernel_rfl
 ·have b:=run_loadVar_new (P:=Ad) w 264 L0 37 186 underlying264 (by kernel_rfl);clear c a;go_wp2;refine bodyPost_ret (v:= .agg L0) ?_ rfl ⟨rfl,(Af _ _).alloc (Ae _) _⟩;refine results_cell_row (fn:=Tryz.f243) rfl _ _ w.heap.size 264 L0 (0,0) _ ?_ (heap_alloc_last w _) underlying264 rfl (by kernel_rfl);rfl
def Lx(r:Int×Int×Int):Value:= .agg #[Aa Ab r.1,Aa Ab r.2.1,Aa Ab r.2.2]
theorem uE{t:Int}(ht:Lt t=true):∀w,(Instr.index 264 (.agg L0) (Aa Ab t)).run Ad w= .ok (Lx (G8 t)) w:=by
 have h:∀n:Fin 37,∀w,(Instr.index 264 (.agg L0) (Aa Ab ((n.val:Nat):Int))).run Ad w= .ok (Lx (G8 ((n.val:Nat):Int))) w:=by
  intro n;rcases n with⟨n,a⟩
  have:n=0∨n=1∨n=2∨n=3∨n=4∨n=5∨n=6∨n=7∨n=8∨n=9∨n=10∨n=11∨n=12∨n=13∨n=14∨n=15∨n=16∨n=17∨n=18∨n=19∨n=20∨n=21∨n=22∨n=23∨n=24∨n=25∨n=26∨n=27∨n=28∨n=29∨n=30∨n=31∨n=32∨n=33∨n=34∨n=35∨n=36:=by omega
  rcases this with rfl|rfl|rfl|rfl|rfl|rfl|rfl|rfl|rfl|rfl|rfl|rfl|rfl|rfl|rfl|rfl|rfl|rfl|rfl|rfl|rfl|rfl|rfl|rfl|rfl|rfl|rfl|rfl|rfl|rfl|rfl|rfl|rfl|rfl|rfl|rfl|rfl
  all_goals
   intro w
   kernel_rfl
 exact Lc (p:=fun t=>∀w,(Instr.index 264 (.agg L0) (Aa Ab t)).run Ad w= .ok (Lx (G8 t)) w) h ht
theorem yR(t:Int)(w:World):Calls Ad 147 #[Aa Ab t] w (Afc (Lx (G8 t)) w):=by
 cases ht:Lt t with
 |true=>
  have a:=Hg.1 ht;have j:=a.1;have k:=a.2;have b:=uE ht;have p:=Hd (show True from trivial);obtain⟨r,d⟩:∃r,G8 t=r:=⟨_,rfl⟩;obtain⟨l,m,n⟩:=r;rw [d] at b⊢;unfold Lx at b⊢;clear a d ht;go_enter func147,ntmps147;go_wp2_with fail;go_at_call 243;refine(Uv _).mono ?_;rintro e x ⟨rfl,a⟩;have c:=Hd ((Bk.new w 186 #[Aa Ab 0,Aa Ab 0,Aa Ab 0]).pure a);have f:=Hd (C1 ((Af w.heap.size w).alloc (Ae _) _) a);have g:=(c.o.cell 0).trans (show _=some (Aa Ab 0) from rfl);have h:=(c.o.cell 1).trans (show _=some (Aa Ab 0) from rfl);have i:=(c.o.cell 2).trans (show _=some (Aa Ab 0) from rfl);obtain ⟨q,s,u⟩:=c.o.f3;clear a;go_wp2;refine bodyPost_ret (v:= .agg #[Aa Ab l,Aa Ab m,Aa Ab n]) (by simp [results,results147,go_sem,g,h,i]) rfl ⟨rfl,?_⟩;exact((f.o.setCell (Ae _) _).setCell (Ae _) _).setCell (Ae _) _
 |false=>
  rw [Yr ht];have a:t<0∨37≤t:=by
   have:¬(0≤t∧t<37):=by rw [←Hg,ht];simp
   omega
  clear ht;rcases a with a|a
  ·go_enter func147,ntmps147;go_wp2;refine bodyPost_ret (v:=Lx (0,0,0)) (by simp [results,results147,go_sem,Lx]) rfl ⟨rfl,?_⟩;exact(Af _ _).alloc (Ae _) _
  ·have h0:¬t<0:=by omega
   go_enter func147,ntmps147;go_wp2;refine bodyPost_ret (v:=Lx (0,0,0)) (by simp [results,results147,go_sem,Lx]) rfl ⟨rfl,?_⟩;exact(Af _ _).alloc (Ae _) _
theorem Ys(a b c:Int)(w:World):(Instr.field 186 (.agg #[Aa Ab a,Aa Ab b,Aa Ab c]) 0).run Ad w= .ok (Aa Ab a) w:=by kernel_rfl
theorem Yt(a b c:Int)(w:World):(Instr.field 186 (.agg #[Aa Ab a,Aa Ab b,Aa Ab c]) 1).run Ad w= .ok (Aa Ab b) w:=by kernel_rfl
theorem Yu(a b c:Int)(w:World):(Instr.field 186 (.agg #[Aa Ab a,Aa Ab b,Aa Ab c]) 2).run Ad w= .ok (Aa Ab c) w:=by kernel_rfl
theorem Tm(t r0 r1 r2:Int)(w:World)(h:G8 t=(r0,r1,r2)):Calls Ad 147 #[Aa Ab t] w (Afc (.agg #[Aa Ab r0,Aa Ab r1,Aa Ab r2]) w):=by
 have:=yR t w;rw [h] at this;exact this
theorem Gd(t:Int)(w:World):Calls Ad 86 #[Aa Ab t] w (Afc (.bool (Cb t)) w):=by
 unfold Cb;obtain⟨r,a⟩:∃r,G8 t=r:=⟨_,rfl⟩;obtain⟨i,j,k⟩:=r;have d:=Hd a;rw [a];clear a;have f:=Ys;have g:=Yt;have h:=Yu;go_enter func86,ntmps86;go_wp2_with fail;go_at_call 147;refine(Tm t i j k _ d.o).mono ?_;rintro e l ⟨rfl,b⟩;have c:=Hd b;clear b;go_wp2;go_ret;exact⟨rfl,c.o⟩
theorem Cz(t:Int)(w:World):Calls Ad 78 #[Aa Ab t] w (Afc (.bool (Bq t)) w):=by
 unfold Bq;obtain⟨r,a⟩:∃r,G8 t=r:=⟨_,rfl⟩;obtain⟨i,j,k⟩:=r;have d:=Hd a;rw [a];clear a;have f:=Ys;have g:=Yt;have h:=Yu;go_enter func78,ntmps78;go_wp2_with fail;go_at_call 147;refine(Tm t i j k _ d.o).mono ?_;rintro e l ⟨rfl,b⟩;have c:=Hd b;clear b;go_wp2;go_ret;exact⟨rfl,c.o⟩
theorem K2(t:Int)(w:World):Calls Ad 272 #[Aa Ab t] w (Afc (.tuple #[Aa Ab (E9 t),Aa Ab (Df t),.bool (Tn t)]) w):=by
 unfold E9 Df Tn;obtain⟨r,a⟩:∃r,G8 t=r:=⟨_,rfl⟩;obtain⟨i,j,k⟩:=r;have d:=Hd a;rw [a];clear a;have f:=Ys;have g:=Yt;have h:=Yu;go_enter func272,ntmps272;go_wp2_with fail;go_at_call 147;refine(Tm t i j k _ d.o).mono ?_;rintro e l ⟨rfl,c⟩;have b:=Hd c;clear c;go_wp2_with fail;go_quiet (fail);go_wp2;go_ret3;exact⟨rfl,below_drewN (b.o.alloc b.o.size _) _⟩
theorem xR(n:Nat):wrap64 ((2:Int)^(n % 4))=2^(n % 4):=by
 have:n % 4=0∨n % 4=1∨n % 4=2∨n % 4=3:=by omega
 rcases this with e|e|e|e <;>rw [e] <;>unfold wrap64 <;>simp only [Int.reducePow] <;>omega
theorem Mz(c:UInt8)(w:World):Calls Ad 50 #[.int .u8 (c.toNat:Int)] w (Afc (.tuple #[Aa Ab (Ng c),Aa Ab (Nh c),Aa Ab (Iv c)]) w):=by
 have g:=c.toNat_lt;have h:IntKind.u8.wrap ((c.toNat:Int)/4)=(c.toNat:Int)/4:=by rw [IntKind.wrap_u8];omega
 cases hl:Cb ((c.toNat:Int)/4) with
 |true=>
  have d:=Hd hl;have h1:Ng c=(c.toNat:Int)/4:=by unfold Ng;rw [if_pos hl]
  have h2:Nh c=2^(c.toNat % 4):=by unfold Nh;rw [if_pos hl]
  have h3:Iv c=0:=by unfold Iv;rw [if_pos hl]
  rw [h1,h2,h3];clear hl h1 h2 h3;go_enter func50,ntmps50;go_wp2_with fail;go_at_call 86;refine(Gd _ _).mono ?_;rw [d.o];rintro e f ⟨rfl,a⟩;have b:=Hd a;clear a;go_wp2;rw [xR];go_ret3;exact⟨rfl,b.o⟩
 |false=>
  have d:=Hd hl;have h1:Ng c=0:=by unfold Ng;rw [hl];rfl
  have h2:Nh c=0:=by unfold Nh;rw [hl];rfl
  have h3:Iv c=20:=by unfold Iv;rw [hl];rfl
  rw [h1,h2,h3];clear hl h1 h2 h3;go_enter func50,ntmps50;go_wp2_with fail;go_at_call 86;refine(Gd _ _).mono ?_;rw [d.o];rintro e f ⟨rfl,a⟩;have b:=Hd a;clear a;go_wp2;go_ret3;exact⟨rfl,b.o⟩
theorem tL{k:IntKind}{a b:Int}(h:a=b):Ending.returned (.tuple #[.int k a,v])= .returned (.tuple #[.int k b,v]):=by rw [h]
def sx(w u:Nat):Int:=if u<2^(8*w-1) then u else(u:Int)-2^(8*w)
def I9(l:List UInt8)(a w:Int):Int:=if Bz w=true∧0≤a∧a+w≤l.length then sx w.toNat (loadU l a w) else 0
theorem wT(l:List UInt8)(a:Int)(x:Nat):loadU l a x<2^(8*x):=by
 unfold loadU;split
 ·refine Ax (Vd _) (Nat.pow_le_pow_right (by omega) ?_);have:=List.length_take_le x (l.drop a.toNat);simp only [Int.toNat_natCast];omega
 ·exact Nat.two_pow_pos _
theorem Ek(n:Int)(h: -9223372036854775808≤n∧n≤9223372036854775807):wrap64 n=n:=by unfold wrap64;omega
theorem Ff(A:Option Addr)(n c:Nat)(a x:Int)(l:List UInt8)(w:World)(er:Int)(u:Nat)(hl:Cv w A n l)(hc:n≤c)(hn:n≤9223372036854775807)(h1:Cy n a x=er)(h2:loadU l a x=u):
  Calls Ad 149 #[.slice A n c,Aa Ab a,Aa Ab x] w (Afc (.tuple #[Aa Ac u,Aa Ab er]) w):=by
 subst h1 h2;exact K7 A n c a x l w hl hc hn
theorem nV(A:Option Addr)(n c:Nat)(a x:Int)(l:List UInt8)(w:World)(hl:Cv w A n l)(hc:n≤c)(hn:n≤9223372036854775807):
  Calls Ad 168 #[.slice A n c,Aa Ab a,Aa Ab x] w (Afc (.tuple #[Aa Ab (I9 l a x),Aa Ab (Cy n a x)]) w):=by
 have g:=hl.1;subst g;rcases Wx l a x with⟨k,y,rfl,rfl,h1,h2,h3,B,d,h⟩|⟨d,h,f⟩
 ·have f:I9 l k y=sx y (loadU l k y):=by unfold I9;rw [if_pos ⟨h1,by omega,by omega⟩];rfl
  rw [d,f];have q:=wT l k y;generalize r:loadU l k y=u at q;have j:=Hd r;clear r;have i:=Hd hl;have s:=Hd d;have m:=Cr.1 h1;clear hl d h f;have v:y=1∨y=2∨y=4∨y=8:=by omega
  clear h1 m;rcases v with rfl|rfl|rfl|rfl
  all_goals
   go_enter func168,ntmps168;go_wp2_with (go_at_call 149;refine(Ff A _ c _ _ l _ 0 u i.o hc hn s.o j.o).mono ?_;rintro e z ⟨rfl,b⟩);go_ret2;refine⟨tL ?_,b⟩;unfold sx wrap64;simp only [Nat.reduceMul,Nat.reduceSub,Nat.reducePow] at q⊢;split <;>omega
 ·have p:I9 l a x=0:=if_neg f;have t:(Cy l.length a x != 0)=true:=by simpa using d
  rw [p];have i:=Hd hl;have j:=Hd h;clear hl d h f p;go_enter func168,ntmps168;go_wp2_with (go_at_call 149;refine(Ff A _ c _ _ l _ _ 0 i.o hc hn rfl j.o).mono ?_;rintro e z ⟨rfl,b⟩);go_ret2;exact⟨rfl,b⟩
end Go.Proofs.YtejpbijeifjdeaaGreat
namespace Go.Acc
open Go.RowKit
section
variable {P:Program} (w:World)
theorem Qb(t tn ty e:TypeId)(i:TypeInfo)(z:Value)(k kn:IntKind)(ht:P.underlying t=some (.slice e))(htn:P.underlying tn=some (.int kn))(hi:P.info? e=some i)(hz:i.zero=some z)
  (g n cap:Nat) (cur:Array Value) (hg:w.heap[g]?=some (.cells cur e (0,0))) (m:Nat) (h0:0<m) (hs:0<i.size) (hzs:z.cells.size=i.size) (h63:(m:Int)≤9223372036854775807) (h48:m*i.bytes≤281474976710656)
  (hroom:n+m≤cap) (h1:∀u∈(Builtin.zeroCells z.cells m).toList,u.oneCell'=true) (hfit:n*i.size+m*i.size≤cur.size):
  (Builtin.append_ #[t,tn] ty #[.slice (some ⟨g,0,none⟩) n cap,.int k m]).run P w=
   .ok (.slice (some ⟨g,0,none⟩) (n+m) cap) (w.setRow g (cur.toList.take (n*i.size)++(Builtin.zeroCells z.cells m).toList++cur.toList.drop (n*i.size+(Builtin.zeroCells z.cells m).toList.length)).toArray):=by
 have f:(Builtin.zeroCells z.cells m).toList.length=m*i.size:=by rw [Array.length_toList,size_zeroCells,hzs]
 have c:=run_storeCells_at P g (n*i.size) e (Builtin.zeroCells z.cells m).toList 0 cur w hg (by rw [f];omega) h1;simp only [Nat.add_zero] at c;have h:m≠0:=by omega
 have j:IntKind.i64.wrap (m:Int)=m:=by rw [IntKind.wrap_i64];omega
 have a:¬(281474976710656<(m:Int)*(i.bytes:Int)):=by rw [←Int.natCast_mul];omega
 have b:¬((m:Int)<0):=by omega
 have d:¬(m*i.size=0):=Nat.mul_ne_zero h (by omega);simp [Builtin.append_,run_underlying ht,run_underlying htn,sizeOf,typeInfo,zeroValue,hi,hz,asInt,asIntOf,j,b,d,a,hroom,Addr.add_lit,c]
theorem Qa(t tn ty e:TypeId)(i:TypeInfo)(z:Value)(k kn:IntKind)(ht:P.underlying t=some (.slice e))(htn:P.underlying tn=some (.int kn))(hi:P.info? e=some i)(hz:i.zero=some z)
  (b:Addr) (n cap:Nat) (olds:List Value) (hlo:olds.length=n*i.size) (holds:∀j v,olds[j]?=some v→w.cell? (b.add j)=some v)
  (m:Nat) (h0:0<m) (hs:0<i.size) (h63:((n+m:Nat):Int)≤9223372036854775807) (h48:m*i.bytes≤281474976710656) (hg:cap<n+m) (hfit:Builtin.nextslicecap (n+m) cap*i.bytes≤281474976710656):
  (Builtin.append_ #[t,tn] ty #[.slice (some b) n cap,.int k m]).run P w=
   .ok (.slice (some ⟨w.heap.size,0,none⟩) (n+m) (grownCap w (n+m) cap e))
    (w.drew.alloc (.cells (olds.toArray++(Builtin.zeroCells z.cells m)++Builtin.zeroCells z.cells (grownCap w (n+m) cap e-(n+m))) e)):=by
 have h:¬(n+m≤cap):=by omega
 have o:m≠0:=by omega
 have p:IntKind.i64.wrap (m:Int)=m:=by rw [IntKind.wrap_i64];omega
 have d:¬(9223372036854775807<((n:Int)+(m:Int))):=by omega
 have a:¬(281474976710656<Builtin.nextslicecap (n+m) cap*i.bytes):=by omega
 have c:¬(281474976710656<(m:Int)*(i.bytes:Int)):=by rw [←Int.natCast_mul];omega
 have f:¬((m:Int)<0):=by omega
 have l:¬(m*i.size=0):=Nat.mul_ne_zero o (by omega);have g:=run_firstCells_some (P:=P) w.drew i.size n b n cap olds hlo (by simpa using holds);simp [Builtin.append_,run_underlying ht,run_underlying htn,sizeOf,typeInfo,zeroValue,hi,hz,asInt,asIntOf,p,h,f,l,d,a,c,Question.forced,g,newRow,grownCap]
theorem Rn(base:Nat)(t tn ty e:TypeId)(i:TypeInfo)(z:Value)(k kn:IntKind)(size bytes:Nat)(ht:P.underlying t=some (.slice e))(htn:P.underlying tn=some (.int kn))(hi:P.info? e=some i)(hz:i.zero=some z)
  (hsize:i.size=size) (hby:i.bytes=bytes) (hzs:z.cells.size=size) (hsz:0<size) (h1:∀m,∀u∈(Builtin.zeroCells z.cells m).toList,u.oneCell'=true)
  (v:Value) (n:Nat) (xs:List Value) (hown:w.ownsRow base e size v n xs) (m:Nat) (h0:0<m)
  (h63:n+m≤maxLen) (hbytes:(n+m)*bytes≤140737488355328) (hbase:base≤w.heap.size):
  ∃v' w',(Builtin.append_ #[t,tn] ty #[v,.int k m]).run P w= .ok v' w'∧w'.ownsRow base e size v' (n+m) (xs++(Builtin.zeroCells z.cells m).toList)∧w.grownBy w' v.ownBlock∧
   (v'.ownBlock=v.ownBlock∨v'.ownBlock=some w.heap.size):=by
 subst hsize;subst hby
 have y:n+m≤9223372036854775807:=by simp only [maxLen] at h63;omega
 have o:m*i.bytes≤281474976710656:=by rw [Nat.add_mul] at hbytes;omega
 have s:(Builtin.zeroCells z.cells m).toList.length=m*i.size:=by rw [Array.length_toList,size_zeroCells,hzs]
 have b:(xs++(Builtin.zeroCells z.cells m).toList).length=(n+m)*i.size:=by rw [Ah,hown.1,s,Nat.add_mul]
 have f:∀(old:Nat),old<n+m→∀(row:Option Nat),
   (w.drew.alloc (.cells (xs.toArray++Builtin.zeroCells z.cells m++Builtin.zeroCells z.cells (grownCap w (n+m) old e-(n+m))) e)).ownsRow base e i.size
    (.slice (some ⟨w.heap.size,0,none⟩) (n+m) (grownCap w (n+m) old e)) (n+m) (xs++(Builtin.zeroCells z.cells m).toList)∧
   w.grownBy (w.drew.alloc (.cells (xs.toArray++Builtin.zeroCells z.cells m++Builtin.zeroCells z.cells (grownCap w (n+m) old e-(n+m))) e)) row:=by
  intro old G row;have C:=grownCap_ge w (n+m) old e;have l:grownCap w (n+m) old e≤maxLen:=grownCap_le_maxLen w (n+m) old e h63;refine⟨⟨b,.inr ⟨w.heap.size,_,_,rfl,hbase,heap_alloc_new w.drew _,C,l,?_,?_⟩⟩,⟨rfl,rfl,rfl,by simp,fun k hk _=>Below.heap_alloc w.drew _ k hk⟩⟩
  ·simp only [Array.size_append,List.size_toArray,size_zeroCells,hzs,hown.1,←Nat.add_mul]
   congr 1
   omega
  ·simp only [Array.toList_append,Am];rw [←Am,←b];exact List.take_left
 rcases hown.2 with⟨rfl,rfl⟩|⟨g,c,h,rfl,A,D,E,l,B,q⟩
 ·have F:xs=[]:=List.eq_nil_of_length_eq_zero (by simpa using hown.1);subst F;have x:=Lib.run_append_nil_zeros (P:=P) w t tn ty e i z k kn ht htn hi hz m h0 hsz (by omega) o;have d:=f 0 (by omega) (Value.ownBlock (.slice none 0 0));simp only [Nat.zero_add,A6,Array.empty_append] at d⊢;exact⟨_,_,x,d.1,d.2,Or.inr rfl⟩
 ·by_cases a:n+m≤c
  ·have r:n*i.size+m*i.size≤h.size:=by rw [B,←Nat.add_mul];exact Nat.mul_le_mul_right _ a
   have x:=Qb (P:=P) w t tn ty e i z k kn ht htn hi hz g n c h D m h0 hsz hzs (by omega) o a (h1 m) r;refine⟨_,_,x,⟨b,.inr ⟨g,c,_,rfl,A,setRow_heap w g h _ e _ D,a,l,?_,?_⟩⟩,⟨rfl,rfl,rfl,by simp,fun k _ hk=>setRow_other w g k _ (fun e=>hk (by simp [Value.ownBlock,e]))⟩,Or.inl rfl⟩
   ·simp only [List.size_toArray,Ah,Az,List.length_drop,Array.length_toList];rw [Array.length_toList] at s;omega
   ·rw [q,←b];exact List.take_left
  ·have p:∀j u,xs[j]?=some u→w.cell? ((⟨g,0,none⟩:Addr).add j)=some u:=hown.cells (g:=g) rfl;have x:=Qa (P:=P) w t tn ty e i z k kn ht htn hi hz ⟨g,0,none⟩ n c xs hown.1 p m h0 hsz (by omega) o (by omega) (growslice_fits (by omega) hbytes);have d:=f c (by omega) (Value.ownBlock (.slice (some ⟨g,0,none⟩) n c));exact⟨_,_,x,d.1,d.2,Or.inr rfl⟩
end
section
variable {α:Type} {f:α→List Value} {P:Program} (w:World)
theorem Yx{zs:Array Value}{x:α}(hx:f x=zs.toList)(h0:0<zs.size)(m:Nat)(hf:∀x,(f x).length=zs.size):(Builtin.zeroCells zs m).toList=(Al m x).flatMap f:=by
 apply List.ext_getElem?;intro j;by_cases a:j<m*zs.size
 ·have c:j/zs.size<m:=Nat.div_lt_of_lt_mul (by rw [Nat.mul_comm];exact a);have b:j % zs.size<zs.size:=Nat.mod_lt _ h0;have h1:=Ip hf (Al m x) (j/zs.size) (j % zs.size) (by simpa using c) b;rw [show j/zs.size*zs.size+j % zs.size=j by rw [Nat.mul_comm];exact Nat.div_add_mod j zs.size,List.getElem_replicate,hx] at h1;rw [h1];simp [Builtin.zeroCells,a,b]
 ·rw [Bg (by simp [Builtin.zeroCells];omega),Bg (by rw [Cm hf];simp;omega)]
theorem uN{ops:Array Oper}{rest:List Oper}{o:Oper}{a:Act}{Q:Exit→Act→World→Prop}(hgd:Region.wanted o (yielded ops a.tmps)=true)(s x:Operand)(t tn:TypeId)
  (ho:o.op= .call { callee:= .builtin .append,args:=#[s,x],argTypes:=#[t,tn]})
  (e:TypeId) (z:Value) (sz bytes:Nat) (k kn:IntKind) (ht:P.underlying t=some (.slice e)) (htn:P.underlying tn=some (.int kn)) (hi:(P.info? e).map (fun i=>(i.zero,i.size,i.bytes))=some (some z,sz,bytes))
  (hzs:z.cells.size=sz) (hsz:0<sz) (hf:∀x,(f x).length=sz) (h1:∀x,∀u∈f x,u.oneCell'=true) (x0:α) (hx0:f x0=z.cells.toList)
  (B:Nat) (A:Option Addr) (n c:Nat) (l:List α) (hs:a.eval s= .slice A n c) (hown:Own f sz e w B A n c l)
  (m:Nat) (M:Int) (hx:a.eval x= .int k M) (hM:M=m) (hm:0<m)
  (hbytes:(n+m)*(bytes+1)≤140737488355328) (hbase:B≤w.heap.size)
  (h:∀A' c' w',Own f sz e w' B A' (n+m) c' (l++Al m x0)→Fr (fun k=>∃ad,A=some ad∧k=ad.block) w w'→
   (A'.map (·.block)=A.map (·.block)∨A'.map (·.block)=some w.heap.size)→wpList P ops Q rest (a.put o.dst (.slice A' (n+m) c')) w'):
  wpList P ops Q (o::rest) a w:=by
 subst hM;obtain⟨i,p,C,b,j⟩:=info_parts hi;have v:(n+m)*bytes≤140737488355328:=Nat.le_trans (Nat.mul_le_mul_left _ (Nat.le_succ _)) hbytes;have y:n+m≤maxLen:=by
  have:n+m≤(n+m)*(bytes+1):=Nat.le_mul_of_pos_right _ (Nat.succ_pos _);simp only [maxLen];omega
 have g:∀m,(Builtin.zeroCells z.cells m).toList=(Al m x0).flatMap f:=fun m=>Yx hx0 (by rw [hzs];exact hsz) m (fun x=>by rw [hf,hzs])
 refine BigFrame.wpList_want hgd fun _ hK=>?_
 obtain⟨D,w',d,h2,h3,r⟩:=Rn (P:=P) w B t tn o.type e i z k kn sz bytes ht htn p C b j hzs hsz (fun m=>by rw [g];exact Sv h1 _) _ n (l.flatMap f) hown.2 m hm y v hbase;unfold Oper.wp execOp;simp only [ho,resolve,invoke,builtin,Sem.run_bind,Sem.run_pure,Result.andThen_ok,List.map_toArray,List.map_cons,List.map_nil,hs,hx,d];rw [g] at h2;obtain⟨A',c',rfl,q⟩:=Own.mk hf hsz (l:=l++Al m x0) h2 List.flatMap_append.symm;refine hK _ _ (h A' c' w' q ((Fr.of_grown h3).mono fun i _ hi=>?_) ?_)
 ·cases A with
  |none=>simp [Value.ownBlock] at hi
  |some ad=>simp [Value.ownBlock] at hi;exact⟨ad,rfl,hi⟩
 ·cases A <;>cases A' <;>simp only [Value.ownBlock,Option.map] at r⊢ <;>exact r
end
end Go.Acc
namespace Go.Proofs.YtejpbijeifjdeaaGreat
open Go.RowKit Go.Acc
variable {w:World}{A:Option Addr}{n k off:Nat}{l:List UInt8}{v:Value}{cur cur':Array Value}{vs:List Value}
def Fb(w u:Nat):Bool:=decide (w=8∨u<2^(8*w))
theorem D4{y:Nat}(h:Bz (y:Int)=true):y=1∨y=2∨y=4∨y=8:=by have:=Cr.1 h;omega
def Bn(n u:Nat):List UInt8:=(List.range n).map fun i=>An (u/2^(8*i))
theorem Bo(n u:Nat):(Bn n u).length=n:=by simp [Bn]
theorem iT(n u k:Nat)(hk:k<(Bn n u).length):(Bn n u)[k]=UInt8.ofNat (u/2^(8*k)):=by simp [Bn]
theorem eF(n u:Nat):Bn (n+1) u=Bn n u++ [An (u/2^(8*n))]:=by simp [Bn,List.range_succ]
theorem Hr(n u:Nat):Fe (Bn n u)=u % 2^(8*n):=by
 induction n with
 |zero=>simp [Bn,Fe,Nat.mod_one]
 |succ n ih=>
  rw [eF,Ws,ih,Bo,UInt8.toNat_ofNat',show 8*(n+1)=8*n+8 by omega,Nat.pow_add,Nat.mod_mul,Nat.mul_comm (2^(8*n))]
theorem rE(y u:Nat)(w:World)(hy:Bz (y:Int)=true)(hu:(u:Int)<18446744073709551616):Calls Ad 27 #[Aa Ab y,Aa Ac u] w (Afd (.bool (Fb y u)) w):=by
 have a:(0:Int)≤u:=by omega
 rcases D4 hy with rfl|rfl|rfl|rfl
 ·by_cases h:u<256
  ·have H:=Hd (show Fb 1 u=true from decide_eq_true (.inr h));have e:((u:Int)/256==0)=true:=by rw [beq_iff_eq];omega
   clear h hy;go_enter func27,ntmps27;go_wp2;go_ret;exact⟨Dw H.o.symm,rfl⟩
  ·have H:=Hd (show Fb 1 u=false from decide_eq_false (by rintro(h'|h') <;>first|exact h h'|omega));have e:((u:Int)/256==0)=false:=by rw [beq_eq_false_iff_ne];omega
   clear h hy;go_enter func27,ntmps27;go_wp2;go_ret;exact⟨Dw H.o.symm,rfl⟩
 ·by_cases h:u<65536
  ·have H:=Hd (show Fb 2 u=true from decide_eq_true (.inr h));have e:((u:Int)/65536==0)=true:=by rw [beq_iff_eq];omega
   clear h hy;go_enter func27,ntmps27;go_wp2;go_ret;exact⟨Dw H.o.symm,rfl⟩
  ·have H:=Hd (show Fb 2 u=false from decide_eq_false (by rintro(h'|h') <;>first|exact h h'|omega));have e:((u:Int)/65536==0)=false:=by rw [beq_eq_false_iff_ne];omega
   clear h hy;go_enter func27,ntmps27;go_wp2;go_ret;exact⟨Dw H.o.symm,rfl⟩
 ·by_cases h:u<4294967296
  ·have H:=Hd (show Fb 4 u=true from decide_eq_true (.inr h));have e:((u:Int)/4294967296==0)=true:=by rw [beq_iff_eq];omega
   clear h hy;go_enter func27,ntmps27;go_wp2;go_ret;exact⟨Dw H.o.symm,rfl⟩
  ·have H:=Hd (show Fb 4 u=false from decide_eq_false (by rintro(h'|h') <;>first|exact h h'|omega));have e:((u:Int)/4294967296==0)=false:=by rw [beq_eq_false_iff_ne];omega
   clear h hy;go_enter func27,ntmps27;go_wp2;go_ret;exact⟨Dw H.o.symm,rfl⟩
 ·go_enter func27,ntmps27;go_wp2;go_ret;exact⟨rfl,rfl⟩
def M5(cur:Array Value)(off:Nat)(vs:List Value)(k:Nat)(cur':Array Value):Prop:=
 cur'.size=cur.size∧∀j,cur'[j]?=if off≤j∧j<off+k then vs[j-off]? else cur[j]?
theorem M5.zero(cur:Array Value)(off:Nat)(vs:List Value):M5 cur off vs 0 cur:=⟨rfl,fun j=>by rw [if_neg (by omega)]⟩
theorem M5.step(h:M5 cur off vs k cur')(hv:vs[k]?=some v)(hk:off+k<cur.size):M5 cur off vs (k+1) (cur'.setIfInBounds (off+k) v):=by
 refine⟨by simpa using h.1,fun j=>?_⟩;rw [Array.getElem?_setIfInBounds,h.2];by_cases e:off+k=j
 ·subst e;rw [if_pos rfl,if_pos (by rw [h.1];exact hk),if_pos (by omega),Nat.add_sub_cancel_left,hv]
 ·rw [if_neg e];by_cases h1:off≤j∧j<off+k
  ·rw [if_pos h1,if_pos (by omega)]
  ·rw [if_neg h1,if_neg (by omega)]
theorem M5.take{m:Nat}(h:M5 cur off vs n cur')(hv:vs.length=n)(hm:off+n≤m)(hs:m≤cur.size):cur'.toList.take m=(cur.toList.take m).take off++vs++(cur.toList.take m).drop (off+n):=by
 apply List.ext_getElem?;intro j;rw [List.getElem?_take];have a:=h.2 j;rw [←Array.getElem?_toList] at a;split
 ·rename_i hjm;rw [a];by_cases h1:j<off
  ·rw [if_neg (by omega),Am,Bh (by simp;omega),List.getElem?_take,if_pos h1,List.getElem?_take,if_pos hjm,Array.getElem?_toList]
  ·by_cases h2:j<off+n
   ·rw [if_pos (by omega),Am,List.getElem?_append_right (by simp;omega),Bh (by simp;omega)]
    congr 1
    simp;omega
   ·rw [if_neg (by omega),List.getElem?_append_right (by simp;omega),List.getElem?_drop,List.getElem?_take,←Array.getElem?_toList];have e:off+n+(j-((cur.toList.take m).take off++vs).length)=j:=by simp;omega
    rw [e,if_pos hjm]
 ·rename_i hjm;rw [Bg];simp;omega
theorem mX(u k:Nat):(u:Int)/2^(8*k) % 256=((An (u/2^(8*k))).toNat:Int):=by
 have e:(u:Int)/2^(8*k)=((u/2^(8*k):Nat):Int):=by simp
 rw [e,UInt8.toNat_ofNat'];omega
theorem iI(g off n c u:Nat)(cur:Array Value)(w:World)(hb:Bk w g 5 cur)(ho:off+n≤cur.size)(hn:n≤8)(hu:(u:Int)<18446744073709551616):
  Calls Ad 59 #[.slice (some ⟨g,off,none⟩) n c,Aa Ac u] w fun e w'=>e= .returned (.tuple #[])∧∃cur',Bk w' g 5 cur'∧M5 cur off ((Bn n u).flatMap bc) n cur'∧Fr (fun k=>k=g) w w':=by
 have d:=Hd hb;have s:(0:Int)≤u:=by omega
 clear hb;go_enter func59,ntmps59;go_wp2;go_loopw [7] (fun i wr=>∃(k:Nat) (cur':Array Value),k≤n∧i= Aa Ab k∧Bk wr g 5 cur'∧M5 cur off ((Bn n u).flatMap bc) k cur'∧Fr (fun k=>k=g) w wr) (fun i _=>n-(intOf i).toNat)
 case atStart=>exact⟨0,cur,by omega,rfl,d.o,M5.zero _ _ _,Fr.refl _ _⟩
 case round=>
  obtain⟨k,cur',x,rfl,b,f,j⟩:=hrel;by_cases p:k<n
  ·have a:∃v,wr.cell? ⟨g,off+k,none⟩=some v:=⟨_,(b.cell (off+k)).trans (Array.getElem?_eq_getElem (by rw [f.1];omega))⟩;obtain⟨v,y⟩:=a;have t:=b.frozen (off+k);have q:=mX u k;have h:((Bn n u).flatMap bc)[k]?=some (.int .u8 ((An (u/2^(8*k))).toNat:Int)):=by
    have:=Ip D1 (Bn n u) k 0 (by rw [Bo];exact p) (by omega);rw [Nat.mul_one,Nat.add_zero,iT] at this;exact this
   have r:=Hd q;have d:=Hd b;have m:=Hd (f.step h (by omega));have l:=Hd j;clear b f j q h;go_wp2;rw [r.o];exact⟨⟨k+1,_,by omega,by go_num,d.o.set_ _ _,m.o,Fr.setCell (S:=fun k=>k=g) l.o (fun _=>rfl) _⟩,by simp [intOf];omega⟩
  ·obtain rfl:k=n:=by omega
   have d:=Hd b;have m:=Hd f;have l:=Hd j;clear b f j;go_wp2;go_end0;exact⟨rfl,cur',d.o,m.o,l.o⟩
end Go.Proofs.YtejpbijeifjdeaaGreat
