/- Parts of the proof. -/
import Derived.Test.YtejpbijeifjdeaaGreatQk24
import Derived.Shelf.SlSortCmp.WholeK
import Derived.Shelf.SlicesG.Cmp
import Derived.Ground.SlsfProg
import Derived.Ground.SlgcProg
import Derived.Ground.NamesProg
set_option maxHeartbeats 4000000
set_option maxRecDepth 100000
open Go.Value renaming int→Aa
open Go.IntKind renaming i64→Ab
open Nat renaming le_refl→Ae,le_trans→Am,lt_of_lt_of_le→As
open Go.RowKit.Below renaming refl→Af
open Go.Proofs.Tryz
open Go.Proofs.Tryz renaming prog→Ad
namespace Go.Proofs.YtejpbijeifjdeaaGreat
variable {B m n0 g:Nat}{S:Nat→Prop}{W:World}{l:List UInt8}{r:Rq}
section
open Go.RowKit Go.Acc
attribute [local go_sem] Oper.semAt_some
theorem Vi:∀(x y:Int×Int×Int) (W:World),(Op.equal 126 (G2 x) (G2 y)).run Ad W= .ok (decide (x=y)) W:=by
 rintro⟨a,b,c⟩ ⟨a',b',c'⟩ W;by_cases h1:a=a' <;>by_cases h2:b=b' <;>by_cases h3:c=c' <;>(simp only [G2];(change (Op.equalIn 10000 _ _ _).run Ad W=_);go_simp)
theorem Vh:∀(x:Int×Int×Int) (e:Bool) (W:World),(Instr.checkKey e 10000 126 (G2 x)).run Ad W= .ok () W:=by
 rintro⟨a,b,c⟩ e W
 kernel_rfl
def Jq(E:Fe)(m:Nat)(k:Nat):Prop:=k=m∨k=E.bw
structure bQ(E:Fe)(m:Nat):Prop where
 a:∀ad,E.A=some ad→¬Jq E m ad.block
 m:m≠E.bw
structure Nf(E:Fe)(m:Nat)(had:List P3)(x p q t v:Int)(bX bR bS:Nat)(w:World):Prop where
 k:Eb E m had x w
 x:Bh w bX 89 #[Adm E.bw]
 r:Bh w bR 70 (Adl p q t v)
 s:Bh w bS 4 #[.bool false]
section
variable {E:Fe} {m:Nat} {had:List P3} {x p q t v:Int} {bX bR bS:Nat} {w w':World}
theorem Nf.pure(h:Nf E m had x p q t v bX bR bS w)(hb:Below w.heap.size w w'):Nf E m had x p q t v bX bR bS w':=⟨h.k.pure hb,h.x.pure hb,h.r.pure hb,h.s.pure hb⟩
theorem Nf.grown{row:Option Nat}(h:Nf E m had x p q t v bX bR bS w)(hm:m<B)(hg:w.grownBy w' row)(hr:∀r,row=some r→B≤r∧∃o:Obj,w.heap[r]?=some o∧o.isCells=false):Nf E m had x p q t v bX bR bS w':=
 ⟨h.k.grown hm hg hr,Dk hg (fun r e=>(hr r e).2) h.x,Dk hg (fun r e=>(hr r e).2) h.r,Dk hg (fun r e=>(hr r e).2) h.s⟩
theorem M7{b:Nat}{l:List P3}{t:TypeId}{cs:Array Value}(h:Bh w b t cs)(hm:Js w m l):b≠m:=by
 rintro rfl;obtain⟨es,k,hb,_⟩:=hm;unfold Bh at h;rw [h] at hb;cases hb
theorem Nf.step{had':List P3}{x':Int}(h:Nf E m had x p q t v bX bR bS w)(hk:Eb E m had' x' w')(hf:Fr (Jq E m) w w'):Nf E m had' x' p q t v bX bR bS w':=
 ⟨hk,h.x.fr hf (fun hs=>hs.elim (M7 h.x h.k.h) (h.x.ne_ h.k.k (by decide))),h.r.fr hf (fun hs=>hs.elim (M7 h.r h.k.h) (h.r.ne_ h.k.k (by decide))),h.s.fr hf (fun hs=>hs.elim (M7 h.s h.k.h) (h.s.ne_ h.k.k (by decide)))⟩
theorem Eb.see(h:Eb E m had x w)(hA:bQ E m){y:P3}(hM:Js w' m (had++ [y]))(hf:Fr (fun k=>k=m) w w'):Eb E m (had++ [y]) x w':=
 ⟨h.hc,h.hn,h.b.fr hf (fun ad e hs=>hA.a ad e (.inl hs)),h.k.fr hf (Ne.symm hA.m),hM,fun ad e=>As (h.la ad e) hf.size⟩
theorem Eb.note(h:Eb E m had x w)(hA:bQ E m)(a:Int):Eb E m had a (w.setCell ⟨E.bw,2,none⟩ (Aa Ab a))∧Fr (Jq E m) w (w.setCell ⟨E.bw,2,none⟩ (Aa Ab a)):=by
 have c:Fr (fun k=>k=E.bw) w (w.setCell ⟨E.bw,2,none⟩ (Aa Ab a)):=Fr.setCell (S:=fun k=>k=E.bw) (Fr.refl _ _) (fun _=>rfl) _;exact⟨⟨h.hc,h.hn,h.b.fr c (fun ad e hs=>hA.a ad e (.inr hs)),h.k.set_ 2 _,h.h.fr c hA.m,fun ad e=>As (h.la ad e) c.size⟩,c.mono fun _ _ h=> .inr h⟩
theorem Eb.far(h:Eb E m had x w)(hA:∀ad,E.A=some ad→ad.block<n0)(hm:m<n0)(hw:E.bw<n0)(hg:n0≤g)(u:Value):Eb E m had x (w.setCell ⟨g,0,none⟩ u):=by
 have a:Fr (fun k=>k=g) w (w.setCell ⟨g,0,none⟩ u):=Fr.setCell (S:=fun k=>k=g) (Fr.refl _ _) (fun _=>rfl) _;exact⟨h.hc,h.hn,h.b.fr a (fun ad e hs=>by have:=hA ad e;omega),h.k.fr a (by omega),h.h.fr a (by omega),fun ad e=>As (h.la ad e) a.size⟩
theorem Np{w0:World}(h:Fr S w0 w)(hn:w0.heap.size=n0)(hg:n0≤g)(u:Value):Fr S w0 (w.setCell ⟨g,0,none⟩ u):=h.setCell (p:=⟨g,0,none⟩) (fun hl=>by simp only at hl;omega) u
end
theorem T8(go:Rq→List P3→Option (Except Int (List P3)))(l:List UInt8)(r:Rq):∀(is:List Nat) (i:Nat) (h h':List P3),Ek go l r is h=some (.ok h')→Ek go l r (is++ [i]) h=go (Cq l r i) h'
 | [],i,h,h',e=>by
  simp only [Ek,Option.some.injEq,Except.ok.injEq] at e;subst e;rw [List.nil_append];unfold Ek;cases go (Cq l r i) h with
  |none=>rfl
  |some e=>cases e <;>rfl
 |j::is,i,h,h',e=>by
  rw [List.cons_append];unfold Ek at e⊢;cases hg:go (Cq l r j) h with
  |none=>rw [hg] at e;cases e
  |some u=>
   rw [hg] at e;cases u with
   |error a=>cases e
   |ok h1=>exact T8 go l r is i h1 h' e
theorem Xr(go:Rq→List P3→Option (Except Int (List P3)))(l:List UInt8)(r:Rq)(a:Int):∀(is js:List Nat) (h:List P3),Ek go l r is h=some (.error a)→Ek go l r (is++js) h=some (.error a)
 | [],js,h,e=>by simp [Ek] at e
 |j::is,js,h,e=>by
  rw [List.cons_append];unfold Ek at e⊢;cases hg:go (Cq l r j) h with
  |none=>rw [hg] at e;cases e
  |some u=>
   rw [hg] at e;cases u with
   |error b=>exact e
   |ok h1=>exact Xr go l r a is js h1 e
theorem pV{w:World}{D:Nat}{o o':Obj}(h:Fr S w W)(hD:w.heap.size≤D)(_:W.heap[D]?=some o):Fr S w (W.putObj D o'):=by
 have hg:=grownBy_putObj' W D o';exact⟨hg.os.trans h.os,hg.tape.trans h.tape,hg.output.trans h.output,Am h.size hg.size,fun k hk hk2=>(hg.block k (As hk h.size) (fun e=>by cases e;omega)).trans (h.block k hk hk2)⟩
theorem dA(N:Nat):(List.finRange N).map (·.val)=List.range N:=List.ext_getElem (by simp) (by intros;simp)
theorem Sl{E:Fe}{W':World}(h:Fr (Jq E m) W W')(hm:m<B)(hw:E.bw<B):KeepsFrom B W W':=
 ⟨h.size,fun k _ hB hk _=>(h.block k (Array.getElem?_eq_some_iff.1 hk).1 (fun e=>by rcases e with e|e <;>omega)).trans hk⟩
def sY(E:Fe)(m:Nat)(x:Int)(w:World)(e:Ending)(w':World):Except Int (List P3)→Prop
 | .ok had=>e= .returned (.bool true)∧Eb E m had x w'∧Fr (Jq E m) w w'
 | .error a=>e= .returned (.bool false)∧(∃had,Eb E m had a w')∧Fr (Jq E m) w w'
def kO(E:Fe)(m:Nat)(go:Rq→List P3→Option (Except Int (List P3)))(Pd:List P3→Prop):Prop:=∀(had:List P3) (x p q t v:Int) (res:Except Int (List P3)) (w:World),Eb E m had x w→H8 ⟨p,q,t,v⟩→Pd had→go ⟨p,q,t,v⟩ had=some res→
 Calls Ad 61 #[Adm E.bw,.agg (Adl p q t v)] w fun e w'=>sY E m x w e w' res
theorem lP(E:Fe)(m:Nat)(hAP:bQ E m)(d:Nat)(Pd Pd1:List P3→Prop)(IH:kO E m (Dt E.l d) Pd)(hT:∀r h,H8 r→Pd h→∃res,Dt E.l d r h=some res∧∀h',res= .ok h'→Pd h')(hS:∀r had,H8 r→Bs r.t=false→Pd1 had→Hh E.l r∉had→Pd (had++ [Hh E.l r])):kO E m (Dt E.l (d+1)) Pd1:=by
 intro had x p q t v res w T Z co an;have al:=Hd hT;have ci:=Hd (fun h1 h2=>hS ⟨p,q,t,v⟩ had Z h1 co h2);clear hT hS co;have bs:=T.hc;have ei:=T.hn;have HG:=Hd an;have da:=Hd Z;have aj:=Hd IH;have cd:=Hd hAP;refine callsIn_wide.1 (callsIn_of_wp_marks (n:=6) func61 rfl trivial (wpIn_wide.2 ?_));simp only [ntmps61,List.size_toArray,List.length_cons,List.length_nil,Nat.reduceAdd,Nat.reduceSub,Array.replicate_succ,Array.replicate_zero,List.push_toArray,List.append_toArray,List.nil_append,List.cons_append];have bm:Below w.heap.size w ((((w.alloc (.cells #[Adm E.bw] 89)).alloc (.cells (Adl p q t v) 70))).alloc (.cells #[.bool false] 4)):=
  (((Af _ _).alloc (Ae _) _).alloc (by simp) _).alloc (by simp <;>omega) _
 have f:=Hd (show Nf E m had x p q t v w.heap.size (w.heap.size+1) (w.heap.size+1+1) ((((w.alloc (.cells #[Adm E.bw] 89)).alloc (.cells (Adl p q t v) 70))).alloc (.cells #[.bool false] 4)) from
  ⟨T.pure bm,((Bh.new w _ _).alloc _).alloc _,(Bh.new_ (by simp) _ _).alloc _,Bh.new_ (by simp) _ _⟩)
 have F:=Hd (Fr.of_below bm (Jq E m));have ab:=Hd T.la;have V:=Hd T.h.lt;have ad:=Hd T.k.lt;clear T an Z IH bm hAP;go_upto_region 1 with fail
 have M:=Hd (show w.heap.size≤w.heap.size+1+1 by omega);generalize (((w.alloc (.cells #[Adm E.bw] 89)).alloc (.cells (Adl p q t v) 70))).alloc (.cells #[.bool false] 4)=w1 at f F⊢;generalize w.heap.size+1+1=bS at f M⊢;generalize w.heap.size+1=bR at f⊢;obtain⟨bX,Y⟩:∃x,w.heap.size=x:=⟨_,rfl⟩;have d4:=Hd Y;rw [Y] at f⊢;clear Y;have j:_=some (Value.slice E.A E.n E.c):=f.o.k.k.cell 0;have c1:_=some (Value.map (some m)):=f.o.k.k.cell 1;have b0:_=some (Adm E.bw):=f.o.x.cell 0;have u:=Be f.o.r;have z:=Bc f.o.r;have x2:=Bb f.o.r;have C:=Bf f.o.r;go_wp2_with fail;go_at_call 78;obtain⟨il,av⟩:∃b,Bs t=b:=⟨_,rfl⟩;refine(Oq t il _ av).mono ?_;rintro e w2 ⟨rfl,i⟩;replace F:=Hd (F.o.trans (Fr.of_below i (Jq E m)) fun _ _ h=>h);replace f:=Hd (f.o.pure i);clear j c1 b0 u z x2 C;clear i;have j:_=some (Value.slice E.A E.n E.c):=f.o.k.k.cell 0;have c1:_=some (Value.map (some m)):=f.o.k.k.cell 1;have b0:_=some (Adm E.bw):=f.o.x.cell 0;have u:=Be f.o.r;have z:=Bc f.o.r;have x2:=Bb f.o.r;have C:=Bf f.o.r;cases il with
 |true=>
  have H:res= .ok had:=by
   have h:=HG.o;unfold Dt at h;rw [if_pos av] at h;injection h with h
   exact h.symm
  subst H;clear av;have s0:_=some (Value.bool false):=f.o.s.cell 0;have s1:=f.o.s.frozen 0;have HT:=Hd (f.o.s.set_ 0 (.bool true));have s2:_=some (Value.bool true):=HT.o.cell 0;go_wp2_with fail;refine⟨.bool true,?_,?_⟩
  ·simp [results,Tryz.f61,go_sem,s2]
  ·exact⟨rfl,f.o.k.far ab.o V.o ad.o M.o _,Np F.o rfl M.o _⟩
 |false=>
  obtain⟨a,ha⟩:∃a,By E.l p q t v=a:=⟨_,rfl⟩;obtain⟨er,cs⟩:∃a,B7 E.l p q t v=a:=⟨_,rfl⟩;have HA:=Hd ha;have c8:=Hd cs;have bf:=Hd av;clear ha cs av;go_wp2_with fail;go_region_held3 (fun w'=>w'.cell? ⟨bX,0,none⟩=some (Adm E.bw)∧w'.cell? ⟨E.bw,0,none⟩=some (.slice E.A E.n E.c)∧(w'.cell? ⟨bR,0,none⟩=some (Aa Ab p)∧w'.cell? ⟨bR,1,none⟩=some (Aa Ab q)∧w'.cell? ⟨bR,2,none⟩=some (Aa Ab t)∧w'.cell? ⟨bR,3,none⟩=some (Aa Ab v))) (first|with_reducible exact⟨b0,j,u,z,x2,C⟩|with_reducible exact⟨Bi b0,Bi j,Bi u,Bi z,Bi x2,Bi C⟩) (first|(go_at_call 79;(with_reducible refine(aO E.A E.n E.c p q t v a er E.l _ f.o.k.m.drew.b bs (by omega) HA.o c8.o).mono ?_);rintro e w5 ⟨rfl,i⟩;have I:=B4 (Co w2) i;clear i;replace F:=Hd (F.o.trans (Fr.of_below I (Jq E m)) fun _ _ h=>h);replace f:=Hd (f.o.pure I);clear j c1 b0 u z x2 C;clear I;have j:_=some (Value.slice E.A E.n E.c):=f.o.k.k.cell 0;have c1:_=some (Value.map (some m)):=f.o.k.k.cell 1;have b0:_=some (Adm E.bw):=f.o.x.cell 0;have u:=Be f.o.r;have z:=Bc f.o.r;have x2:=Bb f.o.r;have C:=Bf f.o.r));go_upto_region 5 with fail
  have HY:=Hd (Bh.new w5 126 #[Aa Ab a,Aa Ab t,Aa Ab v]);have bp:Below w5.heap.size w5 (w5.alloc (.cells #[Aa Ab a,Aa Ab t,Aa Ab v] 126)):=(Af _ _).alloc (Ae _) _;replace f:=Hd (f.o.pure bp);replace F:=Hd (F.o.trans (Fr.of_below bp (Jq E m)) fun _ _ h=>h);clear j c1 b0 u z x2 C;clear bp;generalize w5.alloc (.cells #[Aa Ab a,Aa Ab t,Aa Ab v] 126)=w6 at f F HY⊢;generalize w5.heap.size=bY at HY⊢;have j:_=some (Value.slice E.A E.n E.c):=f.o.k.k.cell 0;have c1:_=some (Value.map (some m)):=f.o.k.k.cell 1;have b0:_=some (Adm E.bw):=f.o.x.cell 0;have u:=Be f.o.r;have z:=Bc f.o.r;have x2:=Bb f.o.r;have C:=Bf f.o.r;obtain ⟨y0,y1,y2⟩:=HY.o.c3;have cy:Dt E.l (d+1) ⟨p,q,t,v⟩ had=if(a,t,v)∈had∨t=4 then some (.ok had) else if 1<v∧K2 E.l ⟨p,q,t,v⟩ (v/2)=true then some (.error a) else Md (Dt E.l d) E.l ⟨p,q,t,v⟩ (had++ [(a,t,v)]):=by
   unfold Dt Hh;simp only [HA.o,bf.o];rw [if_neg (by decide)]
  have a2:=Hd (cy.symm.trans HG.o);clear cy;by_cases hm:(a,t,v)∈had
  ·have b2:∀k,(Instr.lookup 90 (.map (some m)) (.agg #[Aa Ab a,Aa Ab t,Aa Ab v]) false).run Ad (w6.drewN k)= .ok (.bool true) (w6.drewN k):=by
    intro k;have:=O2 underlying90 underlying126 Vi Vh O3 m had (a,t,v) (w6.drewN k) (f.o.k.pure (below_drewN (Af _ _) k)).h;rw [decide_eq_true hm] at this;exact this
   have H:res= .ok had:=by
    have h:=a2.o;rw [if_pos (.inl hm)] at h;injection h with h
    exact h.symm
   subst H;clear hm;go_quiet (fail);have X:=Hd (f.o.pure (below_drewN (Af _ _) nq));have ai:=Hd (F.o.drewN nq);generalize w6.drewN nq=w7 at X ai⊢;clear f F b2;have f:=X;have F:=ai;clear X ai;have s0:_=some (Value.bool false):=f.o.s.cell 0;have s1:=f.o.s.frozen 0;have HT:=Hd (f.o.s.set_ 0 (.bool true));have s2:_=some (Value.bool true):=HT.o.cell 0;go_wp2_with fail;refine⟨.bool true,?_,?_⟩
   ·simp [results,Tryz.f61,go_sem,s2]
   ·exact⟨rfl,f.o.k.far ab.o V.o ad.o M.o _,Np F.o rfl M.o _⟩
  ·have b2:(Instr.lookup 90 (.map (some m)) (.agg #[Aa Ab a,Aa Ab t,Aa Ab v]) false).run Ad w6.drew= .ok (.bool false) w6.drew:=by
    have:=O2 underlying90 underlying126 Vi Vh O3 m had (a,t,v) w6.drew (f.o.k.pure (Co _)).h;rw [decide_eq_false hm] at this;exact this
   by_cases L:t=4
   ·have H:res= .ok had:=by
     have h:=a2.o;rw [if_pos (.inr L)] at h;injection h with h
     exact h.symm
    subst H;have e4:(t==4)=true:=beq_iff_eq.2 L;clear hm L;go_region_held3 (fun w'=>w'.cell? ⟨bX,0,none⟩=some (Adm E.bw)∧w'.cell? ⟨E.bw,1,none⟩=some (.map (some m))∧w'.cell? ⟨bR,2,none⟩=some (Aa Ab t)∧(w'.cell? ⟨bY,0,none⟩=some (Aa Ab a)∧w'.cell? ⟨bY,1,none⟩=some (Aa Ab t)∧w'.cell? ⟨bY,2,none⟩=some (Aa Ab v))) (first|with_reducible exact⟨b0,c1,x2,y0,y1,y2⟩|with_reducible exact⟨Bi b0,Bi c1,Bi x2,Bi y0,Bi y1,Bi y2⟩) (fail);have s0:_=some (Value.bool false):=f.o.s.cell 0;have s1:=f.o.s.frozen 0;have HT:=Hd (f.o.s.set_ 0 (.bool true));have s2:_=some (Value.bool true):=HT.o.cell 0;have s3:((w6.setCell ⟨bS,0,none⟩ (.bool true)).drew).cell? ⟨bS,0,none⟩=some (.bool true):=s2;go_wp2_with fail;refine⟨.bool true,?_,?_⟩
    ·simp [results,Tryz.f61,go_sem,s3]
    ·exact⟨rfl,(f.o.k.far ab.o V.o ad.o M.o _).pure (Co _),(Np F.o rfl M.o _).drew⟩
   ·have e4:(t==4)=false:=beq_eq_false_iff_ne.mpr L;obtain⟨w7,aw,cn,bu,cx⟩:=fJ underlying90 underlying126 Vi Vh m had (a,t,v) w6.drew.drew (f.o.k.pure (B4 (Co _) (Co _))).h hm;replace aw:(Instr.mapUpdate 90 (.map (some m)) (.agg #[.int .i64 a,.int .i64 t,.int .i64 v]) (.bool true)).run Ad w6.drew.drew= .ok () w7:=aw;have bg:=Hd ((f.o.k.pure (B4 (Co _) (Co _))).see cd.o cn bu);have a4:Fr (Jq E m) w6.drew.drew w7:=bu.mono fun _ _ h=> .inl h
    have X:=Hd ((f.o.pure (B4 (Co _) (Co _))).step bg.o a4);have ai:=Hd (F.o.drew.drew.trans a4 fun _ _ h=>h);have ck:=Hd (HY.o.fr (Fr.trans (S:=Jq E m) (Fr.of_below (B4 (Co _) (Co _)) _) a4 fun _ _ h=>h) (fun hs=>hs.elim (M7 HY.o f.o.k.h) (HY.o.ne_ f.o.k.k (by decide))));have d1:_=some (Value.map (some m)):=bg.o.k.cell 1;have d2:_=some (Adm E.bw):=X.o.x.cell 0;have d3:=Bb X.o.r;obtain ⟨z0,z1,z2⟩:=ck.o.c3;have hr:=a2.o;rw [if_neg (by rintro(h|h);exact hm h;exact L h)] at hr;have P:=Hd hr;have d6:=Hd L;have cv:Pd (had++ [(a,t,v)]):=by
     have h:=ci.o bf.o (by unfold Hh;simp only [HA.o];exact hm);unfold Hh at h;simp only [HA.o] at h;exact h
    have au:=Hd cv;clear cv ci;clear hr hm cn bu cx a4 a2 HG L;go_region_held3 (fun w'=>w'.cell? ⟨bX,0,none⟩=some (Adm E.bw)∧w'.cell? ⟨E.bw,1,none⟩=some (.map (some m))∧w'.cell? ⟨bR,2,none⟩=some (Aa Ab t)∧(w'.cell? ⟨bY,0,none⟩=some (Aa Ab a)∧w'.cell? ⟨bY,1,none⟩=some (Aa Ab t)∧w'.cell? ⟨bY,2,none⟩=some (Aa Ab v))) (first|with_reducible exact⟨b0,c1,x2,y0,y1,y2⟩|with_reducible exact⟨Bi b0,Bi c1,Bi x2,Bi y0,Bi y1,Bi y2⟩) (fail);go_wp2_with fail;go_region_held3 (fun w'=>w'.cell? ⟨bX,0,none⟩=some (Adm E.bw)∧w'.cell? ⟨E.bw,1,none⟩=some (.map (some m))∧w'.cell? ⟨bR,2,none⟩=some (Aa Ab t)∧(w'.cell? ⟨bY,0,none⟩=some (Aa Ab a)∧w'.cell? ⟨bY,1,none⟩=some (Aa Ab t)∧w'.cell? ⟨bY,2,none⟩=some (Aa Ab v))) (first|with_reducible exact⟨b0,c1,x2,y0,y1,y2⟩|with_reducible exact⟨Bi b0,Bi c1,Bi x2,Bi y0,Bi y1,Bi y2⟩|with_reducible exact⟨Bi (Bi b0),Bi (Bi c1),Bi (Bi x2),Bi (Bi y0),Bi (Bi y1),Bi (Bi y2)⟩|with_reducible exact⟨d2,d1,d3,z0,z1,z2⟩) (fail);clear b2 aw d1 d2 d3 z0 z1 z2 y0 y1 y2 HY ck bg e4;clear j c1 b0 u z x2 C;clear f F;have f:=X;have F:=ai;clear X ai;generalize had++ [(a,t,v)]=had1 at f P au;have j:_=some (Value.slice E.A E.n E.c):=f.o.k.k.cell 0;have c1:_=some (Value.map (some m)):=f.o.k.k.cell 1;have b0:_=some (Adm E.bw):=f.o.x.cell 0;have u:=Be f.o.r;have z:=Bc f.o.r;have x2:=Bb f.o.r;have C:=Bf f.o.r;have b4:Bt v=true:=da.o.elim (fun h=>by have h2:=bf.o;simp only at h;rw [h2] at h;cases h) (fun h=>h.1);have dd:=Hd b4;have dg:1≤v∧v≤8:=Sk b4;clear b4;go_wp2_with fail;obtain⟨fs,ct⟩:∃b,K2 E.l ⟨p,q,t,v⟩ (v/2)=b:=⟨_,rfl⟩;have ay:=Hd ct;clear ct;go_cut [59] from 12 to 88 (fun u59 wx=>∃wy,wy=wx∧u59= .bool (decide (1<v∧fs=true))∧Below w7.heap.size w7 wx)
    case first=>
     by_cases a7:1<v
     ·have cr:decide (1<v)=true:=decide_eq_true a7;have ea:IntKind.i64.wrap (v.tdiv 2)=v/2:=by rw [Int.tdiv_eq_ediv_of_nonneg (by omega)];exact IntWalk.i64_in _ (by omega)
      have ak:=Hd (show decide (1<v∧fs=true)=fs by cases fs <;>simp [a7]);have G:=Hd (Af w7.heap.size w7);clear F;have de:1≤v/2∧v/2≤8:=by omega
      have O:=ay.o;unfold K2 at O;simp only at O;by_cases R:t=5∨t=25
      ·have af:Qx t=169:=if_pos R;rw [if_pos R] at O;have aa:=Hd O;clear O R;have J:=Hd (fun W:World=>Ti E t W);rw [af] at J;go_region_held3 (fun w'=>w'.cell? ⟨bX,0,none⟩=some (Adm E.bw)∧w'.cell? ⟨E.bw,0,none⟩=some (.slice E.A E.n E.c)∧(w'.cell? ⟨bR,0,none⟩=some (Aa Ab p)∧w'.cell? ⟨bR,1,none⟩=some (Aa Ab q)∧w'.cell? ⟨bR,2,none⟩=some (Aa Ab t)∧w'.cell? ⟨bR,3,none⟩=some (Aa Ab v))) (first|with_reducible exact⟨b0,j,u,z,x2,C⟩|with_reducible exact⟨Bi b0,Bi j,Bi u,Bi z,Bi x2,Bi C⟩) (first|(go_at_call 92;(with_reducible refine(J.o _).mono ?_);rintro e w8 ⟨rfl,i⟩;have I:=B4 (Co w7) i;replace G:=Hd (B4 G.o I);replace f:=Hd (f.o.pure I);clear j c1 b0 u z x2 C;clear i I;have j:_=some (Value.slice E.A E.n E.c):=f.o.k.k.cell 0;have c1:_=some (Value.map (some m)):=f.o.k.k.cell 1;have b0:_=some (Adm E.bw):=f.o.x.cell 0;have u:=Be f.o.r;have z:=Bc f.o.r;have x2:=Bb f.o.r;have C:=Bf f.o.r)|(go_at_call 169;(with_reducible refine(uU E p q t v (v/2) fs _ f.o.k.m aa.o).mono ?_);rintro e Q ⟨rfl,i⟩;replace G:=Hd (B4 G.o i);replace f:=Hd (f.o.pure i);clear j c1 b0 u z x2 C;clear i;have j:_=some (Value.slice E.A E.n E.c):=f.o.k.k.cell 0;have c1:_=some (Value.map (some m)):=f.o.k.k.cell 1;have b0:_=some (Adm E.bw):=f.o.x.cell 0;have u:=Be f.o.r;have z:=Bc f.o.r;have x2:=Bb f.o.r;have C:=Bf f.o.r));go_wp2_with fail;go_meet;rw [ak.o];exact⟨_,rfl,rfl,G.o⟩
      by_cases h6:t=6
      ·have af:Qx t=170:=by rw [h6];rfl
       rw [if_neg R,if_pos h6] at O;have aa:=Hd O;clear O R h6;have J:=Hd (fun W:World=>Ti E t W);rw [af] at J;go_region_held3 (fun w'=>w'.cell? ⟨bX,0,none⟩=some (Adm E.bw)∧w'.cell? ⟨E.bw,0,none⟩=some (.slice E.A E.n E.c)∧(w'.cell? ⟨bR,0,none⟩=some (Aa Ab p)∧w'.cell? ⟨bR,1,none⟩=some (Aa Ab q)∧w'.cell? ⟨bR,2,none⟩=some (Aa Ab t)∧w'.cell? ⟨bR,3,none⟩=some (Aa Ab v))) (first|with_reducible exact⟨b0,j,u,z,x2,C⟩|with_reducible exact⟨Bi b0,Bi j,Bi u,Bi z,Bi x2,Bi C⟩) (first|(go_at_call 92;(with_reducible refine(J.o _).mono ?_);rintro e w8 ⟨rfl,i⟩;have I:=B4 (Co w7) i;replace G:=Hd (B4 G.o I);replace f:=Hd (f.o.pure I);clear j c1 b0 u z x2 C;clear i I;have j:_=some (Value.slice E.A E.n E.c):=f.o.k.k.cell 0;have c1:_=some (Value.map (some m)):=f.o.k.k.cell 1;have b0:_=some (Adm E.bw):=f.o.x.cell 0;have u:=Be f.o.r;have z:=Bc f.o.r;have x2:=Bb f.o.r;have C:=Bf f.o.r)|(go_at_call 170;(with_reducible refine(yP E p q t v (v/2) fs _ f.o.k.m aa.o).mono ?_);rintro e Q ⟨rfl,i⟩;replace G:=Hd (B4 G.o i);replace f:=Hd (f.o.pure i);clear j c1 b0 u z x2 C;clear i;have j:_=some (Value.slice E.A E.n E.c):=f.o.k.k.cell 0;have c1:_=some (Value.map (some m)):=f.o.k.k.cell 1;have b0:_=some (Adm E.bw):=f.o.x.cell 0;have u:=Be f.o.r;have z:=Bc f.o.r;have x2:=Bb f.o.r;have C:=Bf f.o.r));go_wp2_with fail;go_meet;rw [ak.o];exact⟨_,rfl,rfl,G.o⟩
      by_cases h7:t=7
      ·have af:Qx t=171:=by rw [h7];rfl
       rw [if_neg R,if_neg h6,if_pos h7] at O;have aa:=Hd O;clear O R h6 h7;have J:=Hd (fun W:World=>Ti E t W);rw [af] at J;go_region_held3 (fun w'=>w'.cell? ⟨bX,0,none⟩=some (Adm E.bw)∧w'.cell? ⟨E.bw,0,none⟩=some (.slice E.A E.n E.c)∧(w'.cell? ⟨bR,0,none⟩=some (Aa Ab p)∧w'.cell? ⟨bR,1,none⟩=some (Aa Ab q)∧w'.cell? ⟨bR,2,none⟩=some (Aa Ab t)∧w'.cell? ⟨bR,3,none⟩=some (Aa Ab v))) (first|with_reducible exact⟨b0,j,u,z,x2,C⟩|with_reducible exact⟨Bi b0,Bi j,Bi u,Bi z,Bi x2,Bi C⟩) (first|(go_at_call 92;(with_reducible refine(J.o _).mono ?_);rintro e w8 ⟨rfl,i⟩;have I:=B4 (Co w7) i;replace G:=Hd (B4 G.o I);replace f:=Hd (f.o.pure I);clear j c1 b0 u z x2 C;clear i I;have j:_=some (Value.slice E.A E.n E.c):=f.o.k.k.cell 0;have c1:_=some (Value.map (some m)):=f.o.k.k.cell 1;have b0:_=some (Adm E.bw):=f.o.x.cell 0;have u:=Be f.o.r;have z:=Bc f.o.r;have x2:=Bb f.o.r;have C:=Bf f.o.r)|(go_at_call 171;(with_reducible refine(uV E p q t v (v/2) fs _ f.o.k.m aa.o).mono ?_);rintro e Q ⟨rfl,i⟩;replace G:=Hd (B4 G.o i);replace f:=Hd (f.o.pure i);clear j c1 b0 u z x2 C;clear i;have j:_=some (Value.slice E.A E.n E.c):=f.o.k.k.cell 0;have c1:_=some (Value.map (some m)):=f.o.k.k.cell 1;have b0:_=some (Adm E.bw):=f.o.x.cell 0;have u:=Be f.o.r;have z:=Bc f.o.r;have x2:=Bb f.o.r;have C:=Bf f.o.r));go_wp2_with fail;go_meet;rw [ak.o];exact⟨_,rfl,rfl,G.o⟩
      have af:Qx t=172:=by unfold Qx;rw [if_neg R,if_neg h6,if_neg h7]
      rw [if_neg R,if_neg h6,if_neg h7] at O;have aa:=Hd O;clear O R h6 h7;have J:=Hd (fun W:World=>Ti E t W);rw [af] at J;go_region_held3 (fun w'=>w'.cell? ⟨bX,0,none⟩=some (Adm E.bw)∧w'.cell? ⟨E.bw,0,none⟩=some (.slice E.A E.n E.c)∧(w'.cell? ⟨bR,0,none⟩=some (Aa Ab p)∧w'.cell? ⟨bR,1,none⟩=some (Aa Ab q)∧w'.cell? ⟨bR,2,none⟩=some (Aa Ab t)∧w'.cell? ⟨bR,3,none⟩=some (Aa Ab v))) (first|with_reducible exact⟨b0,j,u,z,x2,C⟩|with_reducible exact⟨Bi b0,Bi j,Bi u,Bi z,Bi x2,Bi C⟩) (first|(go_at_call 92;(with_reducible refine(J.o _).mono ?_);rintro e w8 ⟨rfl,i⟩;have I:=B4 (Co w7) i;replace G:=Hd (B4 G.o I);replace f:=Hd (f.o.pure I);clear j c1 b0 u z x2 C;clear i I;have j:_=some (Value.slice E.A E.n E.c):=f.o.k.k.cell 0;have c1:_=some (Value.map (some m)):=f.o.k.k.cell 1;have b0:_=some (Adm E.bw):=f.o.x.cell 0;have u:=Be f.o.r;have z:=Bc f.o.r;have x2:=Bb f.o.r;have C:=Bf f.o.r)|(go_at_call 172;(with_reducible refine(uT E p q t v (v/2) fs _ f.o.k.m dg de aa.o).mono ?_);rintro e Q ⟨rfl,i⟩;replace G:=Hd (B4 G.o i);replace f:=Hd (f.o.pure i);clear j c1 b0 u z x2 C;clear i;have j:_=some (Value.slice E.A E.n E.c):=f.o.k.k.cell 0;have c1:_=some (Value.map (some m)):=f.o.k.k.cell 1;have b0:_=some (Adm E.bw):=f.o.x.cell 0;have u:=Be f.o.r;have z:=Bc f.o.r;have x2:=Bb f.o.r;have C:=Bf f.o.r));go_wp2_with fail;go_meet;rw [ak.o];exact⟨_,rfl,rfl,G.o⟩
     ·have cr:decide (1<v)=false:=decide_eq_false a7;have ak:=Hd (show decide (1<v∧fs=true)=false from decide_eq_false fun h=>a7 h.1);go_quiet (fail);go_wp2_with fail;go_meet;rw [ak.o];exact⟨_,rfl,rfl,below_drewN (Af _ _) _⟩
    case rest=>
    obtain⟨w8,rfl,rfl,i⟩:=hcut;replace F:=Hd (F.o.trans (Fr.of_below i (Jq E m)) fun _ _ h=>h);replace f:=Hd (f.o.pure i);clear j c1 b0 u z x2 C;clear i;have j:_=some (Value.slice E.A E.n E.c):=f.o.k.k.cell 0;have c1:_=some (Value.map (some m)):=f.o.k.k.cell 1;have b0:_=some (Adm E.bw):=f.o.x.cell 0;have u:=Be f.o.r;have z:=Bc f.o.r;have x2:=Bb f.o.r;have C:=Bf f.o.r;by_cases hc:1<v∧fs=true
    ·have hd:decide (1<v∧fs=true)=true:=decide_eq_true hc;rw [hd];have H:res= .error a:=by
      have h:=P.o;rw [ay.o,if_pos hc] at h;injection h with h
      exact h.symm
     subst H;clear hc hd;have w0:_=some (Aa Ab x):=f.o.k.k.cell 2;have w1:=f.o.k.k.frozen 2;have HN:=Hd (f.o.k.note cd.o a);have U:=Hd (f.o.step HN.o.1 HN.o.2);have be:=Hd (F.o.trans HN.o.2 fun _ _ h=>h);have s0:_=some (Value.bool false):=U.o.s.cell 0;have s1:=U.o.s.frozen 0;have HT:=Hd (U.o.s.set_ 0 (.bool false));have s2:_=some (Value.bool false):=HT.o.cell 0;go_wp2_with fail;refine⟨.bool false,?_,?_⟩
     ·simp [results,Tryz.f61,go_sem,s2]
     ·exact⟨rfl,⟨_,U.o.k.far ab.o V.o ad.o M.o _⟩,Np be.o rfl M.o _⟩
    ·have hd:decide (1<v∧fs=true)=false:=decide_eq_false hc;rw [hd];have hr:=P.o;rw [ay.o,if_neg hc] at hr;replace P:=Hd hr;clear hr hc hd;clear ay;go_upto_if 66 with fail
     go_cut [8,9] from 12 to 88 (fun _ _ wx=>∃wy,wy=wx∧∃h2,Pd h2∧Eb E m h2 x wx∧Fr (Jq E m) w8 wx∧Ek (Dt E.l d) E.l ⟨p,q,t,v⟩ (List.range (lsLen E.l p q t v)) h2=some res)
     case first=>
      by_cases h9:t=9
      ·have e9:(t==9)=true:=beq_iff_eq.2 h9;obtain⟨kp,bv⟩:∃a,Sp E.l p q t v=a:=⟨_,rfl⟩;obtain⟨kq,hk2⟩:∃a,Sq E.l p q t v=a:=⟨_,rfl⟩;obtain⟨kt,bz⟩:∃a,Ps E.l p q t v=a:=⟨_,rfl⟩;obtain⟨kv,b1⟩:∃a,Sr E.l p q t v=a:=⟨_,rfl⟩;obtain⟨ke,cu⟩:∃a,Hf E.l p q t v=a:=⟨_,rfl⟩;have ax:Ck E.l ⟨p,q,t,v⟩=⟨kp,kq,kt,kv⟩:=by unfold Ck;simp only [bv,hk2,bz,b1]
       have bd:H8 ⟨kp,kq,kt,kv⟩:=ax▸Vg E.l ⟨p,q,t,v⟩
       have hr:=P.o;unfold Md at hr;rw [if_pos h9,ax] at hr;have HP:=Hd bv;have cf:=Hd hk2;have HT:=Hd bz;have HV:=Hd b1;have ce:=Hd cu;have ba:=Hd bd;replace P:=Hd hr;clear bv hk2 bz b1 cu ax bd hr h9;go_upto_region 12 with fail
       go_cut [8,9] from 12 to 88 (fun u7 u8 wx=>∃wy,wy=wx∧u8= Aa Ab ke∧∃g,u7= Adm g∧Bh wx g 70 (Adl kp kq kt kv)∧Below w8.heap.size w8 wx)
       case first=>
        have G:=Hd (Af w8.heap.size w8);have ae:=Hd f.o;have c5:=Hd (show w8.cell? ⟨bX,0,none⟩=some (Adm E.bw) from f.o.x.cell 0);have ec:E.bw≠w8.heap.size:=by have:=f.o.k.k.lt;omega
        have ed:bR≠w8.heap.size:=by have:=f.o.r.lt;omega
        have ee:bX≠w8.heap.size:=by have:=f.o.x.lt;omega
        clear f F c1;go_region_held3 (fun w'=>w'.cell? ⟨bX,0,none⟩=some (Adm E.bw)∧w'.cell? ⟨E.bw,0,none⟩=some (.slice E.A E.n E.c)∧(w'.cell? ⟨bR,0,none⟩=some (Aa Ab p)∧w'.cell? ⟨bR,1,none⟩=some (Aa Ab q)∧w'.cell? ⟨bR,2,none⟩=some (Aa Ab t)∧w'.cell? ⟨bR,3,none⟩=some (Aa Ab v))) ((with_reducible refine⟨?_,?_,?_,?_,?_,?_⟩) <;>(repeat (first|with_reducible assumption|with_reducible refine B3 ?_|with_reducible refine C4 _ ?_|with_reducible refine J1 ?_ ?_)))
         (first|(go_at_call 93;(first|(with_reducible refine(Lj E.A E.n E.c p q t v kp kq kt kv ke E.l _ (ae.o.k.b.pure G.o.drew) bs (by omega) HP.o cf.o HT.o HV.o ce.o).mono ?_)|(with_reducible refine(Lj E.A E.n E.c p q t v kp kq kt kv ke E.l _ (ae.o.k.b.pure (G.o.alloc G.o.size _).drew) bs (by omega) HP.o cf.o HT.o HV.o ce.o).mono ?_));rintro e Q ⟨rfl,i⟩;(first|(with_reducible replace G:=Hd (Ba G.o.drew i))|((with_reducible have HK:=Hd ((Bh.new w8 70 (Adl 0 0 0 0)).drew.pure i));(with_reducible replace G:=Hd (Ba (G.o.alloc G.o.size _).drew i));obtain ⟨q0,q1,q2,q3⟩:=HK.o.c4;obtain ⟨p0,p1,p2⟩:=HK.o.f3;have p3:=HK.o.frozen 3));replace b0:=Bg G.o c5.o;replace j:=Bg G.o ae.o.k.m.c0;replace u:=Bg G.o (Be ae.o.r);replace z:=Bg G.o (Bc ae.o.r);replace x2:=Bg G.o (Bb ae.o.r);replace C:=Bg G.o (Bf ae.o.r);have ef:E.bw≠Q.heap.size:=(by have:=Bl j;simp only at this;omega);have eg:bR≠Q.heap.size:=(by have:=Bl u;simp only at this;omega);have eh:bX≠Q.heap.size:=(by have:=Bl b0;simp only at this;omega);clear i))
        all_goals
         go_wp2_with fail;go_meet
         first
          |with_reducible exact⟨_,rfl,rfl,_,rfl,Bh.new _ _ _,G.o.alloc G.o.size _⟩
          |exact⟨_,rfl,rfl,_,rfl,(((HK.o.set_ 0 _).set_ 1 _).set_ 2 _).set_ 3 _,B6 _ G.o (Ae _) _ _ _ _⟩
       case rest=>
       obtain⟨Q,rfl,rfl,g,rfl,hK,i⟩:=hcut;obtain ⟨k0,k1,k2,k3⟩:=hK.c4;have G:=Hd i;replace F:=Hd (F.o.trans (Fr.of_below i (Jq E m)) fun _ _ h=>h);replace f:=Hd (f.o.pure i);clear j c1 b0 u z x2 C;clear i;have j:_=some (Value.slice E.A E.n E.c):=f.o.k.k.cell 0;have c1:_=some (Value.map (some m)):=f.o.k.k.cell 1;have b0:_=some (Adm E.bw):=f.o.x.cell 0;have u:=Be f.o.r;have z:=Bc f.o.r;have x2:=Bb f.o.r;have C:=Bf f.o.r;clear hK;cases hg:Dt E.l d ⟨kp,kq,kt,kv⟩ had1 with
       |none=>
        have h:=P.o;rw [hg] at h;cases h
       |some r1=>
        have hr:=P.o;rw [hg] at hr;have HC:=Hd (aj.o had1 x kp kq kt kv r1 Q f.o.k ba.o au.o hg);have bi:=Hd (show ∀h',r1= .ok h'→Pd h' from by obtain⟨r2,h1,h2⟩:=al.o _ _ ba.o au.o;rw [hg] at h1;injection h1 with h1;rw [h1];exact h2);replace P:=Hd hr;clear hr hg;go_wp2_with fail;go_at_call 61;refine HC.o.mono ?_;clear k0 k1 k2 k3;cases r1 with
        |error a1=>
         rintro e a9 ⟨rfl,⟨cr,T⟩,hF⟩;have H:res= .error a1:=by
          have h:=P.o;injection h with h
          exact h.symm
         subst H;have U:=Hd (f.o.step T hF);have be:=Hd (F.o.trans hF fun _ _ h=>h);clear j c1 b0 u z x2 C;clear T hF;have s0:_=some (Value.bool false):=U.o.s.cell 0;have s1:=U.o.s.frozen 0;have HT:=Hd (U.o.s.set_ 0 (.bool false));have s2:_=some (Value.bool false):=HT.o.cell 0;go_wp2_with fail;refine⟨.bool false,?_,?_⟩
         ·simp [results,Tryz.f61,go_sem,s2]
         ·exact⟨rfl,⟨_,U.o.k.far ab.o V.o ad.o M.o _⟩,Np be.o rfl M.o _⟩
        |ok h2=>
         rintro e a9 ⟨rfl,T,hF⟩;have HO:=Hd (show ∃h2,Pd h2∧Eb E m h2 x a9∧Fr (Jq E m) w8 a9∧Ek (Dt E.l d) E.l ⟨p,q,t,v⟩ (List.range (lsLen E.l p q t v)) h2=some res from⟨h2,bi.o _ rfl,T,(Fr.of_below G.o _).trans hF fun _ _ h=>h,P.o⟩);clear T hF P f F HC;clear j c1 b0 u z x2 C;go_wp2_with fail;go_meet;exact⟨_,rfl,HO.o⟩
      ·have e9:(t==9)=false:=beq_eq_false_iff_ne.mpr h9;have hr:=P.o;unfold Md at hr;rw [if_neg h9] at hr;replace P:=Hd hr;clear hr h9;go_wp2_with fail;go_meet;exact⟨_,rfl,_,au.o,f.o.k,Fr.refl _ _,P.o⟩
     case rest=>
     obtain⟨Q,rfl,h2,cp,cm,bn,hr⟩:=hcut;have db:=Hd cp;replace P:=Hd hr;replace f:=Hd (f.o.step cm bn);replace F:=Hd (F.o.trans bn fun _ _ h=>h);clear j c1 b0 u z x2 C;clear cm bn hr cp au;have j:_=some (Value.slice E.A E.n E.c):=f.o.k.k.cell 0;have c1:_=some (Value.map (some m)):=f.o.k.k.cell 1;have b0:_=some (Adm E.bw):=f.o.x.cell 0;have u:=Be f.o.r;have z:=Bc f.o.r;have x2:=Bb f.o.r;have C:=Bf f.o.r;go_wp2_with (go_at_call 94;(with_reducible refine(Wk E p q t v _).mono ?_);rintro e a9 ⟨rfl,rfl⟩);have bl:∀o,Below Q.heap.size Q (Q.alloc o):=fun o=>(Af _ _).alloc (Ae _) o
     have bo:Below Q.heap.size Q ((Q.alloc (.cells #[Adm E.bw] 89)).alloc (.cells (Adl p q t v) 70)):=(bl _).alloc (bl _).size _;replace f:=Hd (f.o.pure bo);replace F:=Hd (F.o.trans (Fr.of_below bo (Jq E m)) fun _ _ h=>h);have HIT:=Hd (show Pj E p q t v Q.heap.size (Q.heap.size+1) ((Q.alloc (.cells #[Adm E.bw] 89)).alloc (.cells (Adl p q t v) 70)) from
      ⟨f.o.k.m,(Bh.new Q _ _).alloc _,Bh.new_ (by simp) _ _⟩)
     clear j c1 b0 u z x2 C;clear bl bo;generalize Q.heap.size=bx at HIT⊢;generalize (Q.alloc (.cells #[Adm E.bw] 89)).alloc (.cells (Adl p q t v) 70)=wl at f F HIT⊢;obtain⟨N,hN⟩:∃N,lsLen E.l p q t v=N:=⟨_,rfl⟩;have HN:=Hd hN;clear hN;have az:=Hd f.o.k.h.lt;have cj:=Hd f.o.k.k.lt;refine(wpIn_wide (n:=6)).1 ?_;refine fY fun a0 ha0=>?_
     refine wpIn_rangeFunc_ownH rfl (by omega) (gf:=173) (lb:=#[Adm bx,.pointer (some ⟨bx+1,0,none⟩)]) (by rw [ha0];rfl) trivial (enters_of func173 (by kernel_rfl) rfl)
      (Se E p q t v bx (bx+1) N wl HN.o HIT.o (6-1) (by omega)) wZ wY (Af _ _) (fun _=>rfl)
      (fun pre W=>∃h,Ek (Dt E.l d) E.l ⟨p,q,t,v⟩ (pre.map (·.val)) h2=some (.ok h)∧Pd h∧Nf E m h x p q t v bX bR bS W∧Fr (Jq E m) w W)
      (fun c pre W=>c= .ret∧∃a h,Ek (Dt E.l d) E.l ⟨p,q,t,v⟩ (pre.map (·.val)) h2=some (.error a)∧Eb E m h a W∧Bh W bS 4 #[.bool false]∧Fr (Jq E m) w W)
      (fun s A B row hs hg hr=>by
       obtain⟨h,h1,bk,h3,L⟩:=hs;exact⟨h,h1,bk,h3.grown az.o hg hr,⟨hg.os.trans L.os,hg.tape.trans L.tape,hg.output.trans L.output,Am L.size hg.size,fun k hk hk2=>(hg.block k (As hk L.size) (fun e=>by have:=(hr k e.symm).1;have:=F.o.size;omega)).trans (L.block k hk hk2)⟩⟩)
      (fun c s A B row hs hg hr=>by
       obtain⟨h0,a,h,h1,bk,h3,L⟩:=hs;exact⟨h0,a,h,h1,bk.grown az.o hg hr,Dk hg (fun r e=>(hr r e).2) h3,⟨hg.os.trans L.os,hg.tape.trans L.tape,hg.output.trans L.output,Am L.size hg.size,fun k hk hk2=>(hg.block k (As hk L.size) (fun e=>by have:=(hr k e.symm).1;have:=F.o.size;omega)).trans (L.block k hk hk2)⟩⟩)
      ⟨h2,rfl,db.o,f.o,F.o⟩
      (fun y a' W=>∃Bx,Bh W Bx 70 #[Aa Ab (Cq E.l ⟨p,q,t,v⟩ y.val).p,Aa Ab (Cq E.l ⟨p,q,t,v⟩ y.val).q,Aa Ab (Cq E.l ⟨p,q,t,v⟩ y.val).t,Aa Ab (Cq E.l ⟨p,q,t,v⟩ y.val).v]∧
       a'={ tmps:=((a0.tmps.setIfInBounds 83 (Aa Ab (y.val:Int))).setIfInBounds 84 (.agg #[Aa Ab (Cq E.l ⟨p,q,t,v⟩ y.val).p,Aa Ab (Cq E.l ⟨p,q,t,v⟩ y.val).q,Aa Ab (Cq E.l ⟨p,q,t,v⟩ y.val).t,Aa Ab (Cq E.l ⟨p,q,t,v⟩ y.val).v])).setIfInBounds 11 (Adm Bx),defers:=[]})
      (fun y a' _ A B row hs hg hr=>by obtain⟨Bx,i,e⟩:=hs;exact⟨Bx,Dk hg (fun r e=>(hr r e).2) i,e⟩)
      ?assign ?body ?done ?stop
     case assign=>
      rintro l pre y W K ⟨h,h1,h3,L,R⟩ hK;have G:=Hd hK;have HH:=Hd (And.intro h1 h3);clear hK h1 h3 P f F HIT al aj;subst ha0;simp only [cQ]
      gi_wp2
      refine G.o _ _ ((KeepsOthers.alloc _ _).from _) (fun h=>h.pure ((Af _ _).alloc (Ae _) _)) ⟨h,HH.o.1,HH.o.2,L.pure ((Af _ _).alloc (Ae _) _),R.alloc _⟩ ⟨W.heap.size,Bh.new _ _ _,?_⟩;rfl
     case body=>
      rintro l pre y a' W hl ⟨rr,ej⟩ ⟨h,h1,h3,L,R⟩ ⟨Bx,Y,rfl⟩ eb;have Z:=Yu E.l ⟨p,q,t,v⟩ dd.o y.val;obtain⟨⟨kp,kq,kt,kv⟩,bt⟩:∃c,Cq E.l ⟨p,q,t,v⟩ y.val=c:=⟨_,rfl⟩;rw [bt] at Z Y⊢;simp only at Y⊢;obtain⟨r1,an,cq⟩:=al.o _ h Z h3;have b3:=(T8 (Dt E.l d) E.l ⟨p,q,t,v⟩ _ y.val h2 h h1);rw [bt,an] at b3;have ch:=Hd (show Ek (Dt E.l d) E.l ⟨p,q,t,v⟩ ((pre++ [y]).map (·.val)) h2=some r1 by rw [List.map_append];exact b3);have c6:=Hd (aj.o h x _ _ _ _ r1 W L.k Z h3 an);have bi:=Hd cq;have H4:=Hd L;have H5:=Hd R;have b0:W.cell? ⟨bX,0,none⟩=some (Adm E.bw):=L.x.cell 0;obtain ⟨k0,k1,k2,k3⟩:=Y.c4;clear bt Z an b3 cq L R h1 h3 Y P f F HIT aj al;subst ha0
      gi_wp2
      refine⟨trivial,(CallsIn.inRound l (callsIn_wide.2 c6.o)).mono ?_⟩;clear b0 k0 k1 k2 k3;cases r1 with
      |error a1=>
       rintro e W3 ⟨rfl,⟨hd,T⟩,hF⟩;have HS:=Hd (H4.o.step T hF).s;have HL:=Hd T;have HF:=Hd hF;clear T hF;have s0:_=some (Value.bool false):=HS.o.cell 0;have s1:=HS.o.frozen 0
       gi_wp2
       exact⟨(Sl HF.o az.o cj.o).trans ((KeepsOthers.setCell _ _ _).from _),⟨rfl,a1,_,ch.o,HL.o.far ab.o V.o ad.o M.o _,HS.o.set_ 0 _,Np (H5.o.trans HF.o fun _ _ h=>h) rfl M.o _⟩⟩
      |ok h'=>
       rintro e W3 ⟨rfl,T,hF⟩;have HL:=Hd T;have HF:=Hd hF;clear T hF
       gi_wp2
       exact⟨Sl HF.o az.o cj.o,fun hi=>⟨HL.o.m,hi.x.fr HF.o (fun hs=>hs.elim (M7 hi.x H4.o.k.h) (hi.x.ne_ H4.o.k.k (by decide))),hi.r.fr HF.o (fun hs=>hs.elim (M7 hi.r H4.o.k.h) (hi.r.ne_ H4.o.k.k (by decide)))⟩,⟨h',ch.o,bi.o _ rfl,H4.o.step HL.o HF.o,H5.o.trans HF.o fun _ _ h=>h⟩⟩
     case done=>
      rintro D ys W hD rfl ⟨h,h1,h3,L,R⟩ hK;have H:res= .ok h:=by
       have e1:=P.o;rw [HN.o,←dA,h1] at e1;injection e1 with e1
       exact e1.symm
      subst H;have HL:=Hd L;have HF:=Hd R;have HD:=Hd (Am F.o.size hD);have bh:=Hd (As V.o (Am F.o.size hD));clear h1 h3 L R P f F HIT al aj;subst ha0;have s0:W.cell? ⟨bS,0,none⟩=some (.bool false):=HL.o.s.cell 0;have s1:=HL.o.s.frozen 0;have dc:=Hd (HL.o.s.set_ 0 (.bool true));have a5:=(KeepsOthers.setCell W ⟨bS,0,none⟩ (.bool true)).same D _ hK rfl;go_wp2_with fail;refine⟨by simp,.inl ⟨_,_,rfl,run_takeDeferred a5,?_⟩⟩;have bq:=Dk (grownBy_putObj' _ D (.deferred none)) (fun r e=>by cases e;exact⟨_,a5,rfl⟩) dc.o;have br:_=some (Value.bool true):=bq.cell 0;refine⟨.bool true,?_,?_⟩
      ·simp [results,Tryz.f61,go_sem,br]
      ·exact⟨rfl,(HL.o.k.far ab.o V.o ad.o M.o _).grown bh.o (grownBy_putObj' _ D (.deferred none)) (fun r e=>by cases e;exact⟨Ae _,_,a5,rfl⟩),pV (Np HF.o rfl M.o _) HD.o a5⟩
     case stop=>
      rintro D c pre W hD cw ⟨rfl,a1,h,h1,h3,L,R⟩ hK;have H:res= .error a1:=by
       obtain⟨js,df⟩:=cw;have e1:=P.o;rw [HN.o,←dA,←df,List.map_append,Xr _ _ _ _ _ _ _ h1] at e1;injection e1 with e1
       exact e1.symm
      subst H;have HL:=Hd h3;have HS:=Hd L;have HF:=Hd R;have HD:=Hd (Am F.o.size hD);have bh:=Hd (As V.o (Am F.o.size hD));clear h1 h3 L R P f F HIT al aj;subst ha0
      gi_wp2
      refine⟨by simp,.inl ⟨_,_,rfl,run_takeDeferred hK,?_⟩⟩;have bq:=Dk (grownBy_putObj' W D (.deferred none)) (fun r e=>by cases e;exact⟨_,hK,rfl⟩) HS.o;have br:_=some (Value.bool false):=bq.cell 0;refine⟨.bool false,?_,?_⟩
      ·simp [results,Tryz.f61,go_sem,br]
      ·exact⟨rfl,⟨_,HL.o.grown bh.o (grownBy_putObj' _ D (.deferred none)) (fun r e=>by cases e;exact⟨Ae _,_,hK,rfl⟩)⟩,pV HF.o HD.o hK⟩
def M3(n:Nat):List P3:=(List.range (n+1)).flatMap fun(a:Nat)=>(List.range 64).flatMap fun(t:Nat)=>(List.range 9).map fun(v:Nat)=>((a:Int),(t:Int),(v:Int))
theorem rD{n:Nat}{a t v:Int}(ha:0≤a∧a≤n)(ht:0≤t∧t<64)(hv:1≤v∧v≤8):(a,t,v)∈M3 n:=by
 unfold M3;refine List.mem_flatMap.2 ⟨a.toNat,List.mem_range.2 (by omega),List.mem_flatMap.2 ⟨t.toNat,List.mem_range.2 (by omega),List.mem_map.2 ⟨v.toNat,List.mem_range.2 (by omega),?_⟩⟩⟩;rw [Int.toNat_of_nonneg ha.1,Int.toNat_of_nonneg ht.1,Int.toNat_of_nonneg (by omega)]
def Pw(n:Nat)(had:List P3):Nat:=(M3 n).countP fun y=>decide (y∉had)
def Lf(l:List UInt8)(d:Nat)(had:List P3):Prop:=Pw l.length had<d
theorem cG{α:Type}{p q:α→Bool}:∀(U:List α) (y:α),y∈U→(∀x,p x=true→q x=true)→p y=false→q y=true→U.countP p<U.countP q
 | [],y,h,_,_,_=>absurd h (List.not_mem_nil)
 |x::U,y,h,hpq,h1,h2=>by
  have b:=List.countP_mono_left (l:=U) (p:=p) (q:=q) (fun x _=>hpq x);rw [List.countP_cons,List.countP_cons];rcases List.mem_cons.1 h with rfl|h
  ·rw [h1,h2];simp;omega
  ·have a:=cG U y h hpq h1 h2;have h3:=hpq x;cases e:p x with
   |false=>
    rw [if_neg (by decide)];split <;>omega
   |true=>
    rw [h3 e];simp;exact a
theorem Qz(n:Nat)(had:List P3)(y:P3)(h:y∈M3 n)(hn:y∉had):Pw n (had++ [y])<Pw n had:=by
 unfold Pw;refine cG _ y h (fun x hx=>?_) (by simp) (by simp [hn]);have:=of_decide_eq_true hx;exact decide_eq_true fun h=>this (List.mem_append_left _ h)
theorem Qy(l:List UInt8)(r:Rq)(hv:Bt r.v=true)(go:Rq→List P3→Option (Except Int (List P3)))(Pd:List P3→Prop)(hgo:∀r h,H8 r→Pd h→∃res,go r h=some res∧∀h',res= .ok h'→Pd h'):
  ∀(is:List Nat) (h:List P3),Pd h→∃res,Ek go l r is h=some res∧∀h',res= .ok h'→Pd h'
 | [],h,hp=>⟨.ok h,rfl,fun h' e=>by injection e with e;exact e▸hp⟩
 |i::is,h,hp=>by
  obtain⟨res,h1,h2⟩:=hgo (Cq l r i) h (Yu l r hv i) hp;unfold Ek;rw [h1];cases res with
  |error a=>exact⟨_,rfl,fun h' e=>by cases e⟩
  |ok h'=>exact Qy l r hv go Pd hgo is h' (h2 _ rfl)
theorem Yv(hok:H8 r)(hi:¬Bs r.t=true):Hh l r∈M3 l.length:=by
 rcases hok with h|h
 ·exact absurd h hi
 ·exact rD (X3 l r.p r.q r.t r.v) h.2 (Sk h.1)
theorem N3(l:List UInt8):∀(d:Nat) (r:Rq) (h:List P3),H8 r→Lf l d h→∃res,Dt l d r h=some res∧∀h',res= .ok h'→Lf l d h'
 |0,_,_,_,hp=>absurd hp (Nat.not_lt_zero _)
 |d+1,r,h,hok,hp=>by
  unfold Dt;by_cases h1:Bs r.t=true
  ·rw [if_pos h1];exact⟨_,rfl,fun h' e=>by injection e with e;exact e▸hp⟩
  rw [if_neg h1];by_cases h2:Hh l r∈h∨r.t=4
  ·rw [if_pos h2];exact⟨_,rfl,fun h' e=>by injection e with e;exact e▸hp⟩
  rw [if_neg h2];by_cases h3:1<r.v∧K2 l r (r.v/2)=true
  ·rw [if_pos h3];exact⟨_,rfl,fun h' e=>by cases e⟩
  rw [if_neg h3];have i:Bt r.v=true:=hok.elim (fun h=>absurd h h1) (fun h=>h.1);have g:Lf l d (h++ [Hh l r]):=by
   have:=Qz l.length h (Hh l r) (Yv hok h1) (fun h'=>h2 (.inl h'));unfold Lf at hp⊢;omega
  have j:∀h',Lf l d h'→Lf l (d+1) h':=fun h' hh=>Nat.lt_succ_of_lt hh
  unfold Md;by_cases f:r.t=9
  ·rw [if_pos f];obtain⟨res,k,m⟩:=N3 l d (Ck l r) _ (Vg l r) g;rw [k];cases res with
   |error a=>exact⟨_,rfl,fun h' e=>by cases e⟩
   |ok h'=>
    obtain⟨res,b,c⟩:=Qy l r i (Dt l d) (Lf l d) (N3 l d) _ h' (m _ rfl);exact⟨res,b,fun h' e=>j _ (c _ e)⟩
  ·rw [if_neg f];obtain⟨res,b,c⟩:=Qy l r i (Dt l d) (Lf l d) (N3 l d) (List.range (lsLen l r.p r.q r.t r.v)) _ g;exact⟨res,b,fun h' e=>j _ (c _ e)⟩
theorem Zq(E:Fe)(m:Nat)(hA:bQ E m):∀d,kO E m (Dt E.l d) (Lf E.l d)
 |0=>fun _ _ _ _ _ _ _ _ _ _ hp _=>absurd hp (Nat.not_lt_zero _)
 |d+1=>lP E m hA d (Lf E.l d) (Lf E.l (d+1)) (Zq E m hA d) (N3 E.l d) (fun r had hok hi hp hn=>by
   have:=Qz E.l.length had (Hh E.l r) (Yv hok (by rw [hi];decide)) hn;unfold Lf at hp⊢;omega)
def Pv(l:List UInt8):Nat:=(l.length+1)*576+1
theorem Z4(n:Nat):(M3 n).length=(n+1)*576:=by
 unfold M3;rw [List.length_flatMap];simp [List.length_flatMap,List.map_const',List.sum_replicate_nat]
theorem Z5(l:List UInt8)(had:List P3):Lf l (Pv l) had:=Nat.lt_succ_of_le (by rw [←Z4];exact List.countP_le_length)
def Ou(l:List UInt8)(r:Rq):Except Int (List P3):=(Dt l (Pv l) r []).getD (.ok [])
theorem eJ(h:H8 r):Dt l (Pv l) r []=some (Ou l r):=by
 obtain⟨res,h1,_⟩:=N3 l (Pv l) r [] h (Z5 l []);unfold Ou;rw [h1];rfl
theorem mT(E:Fe)(m:Nat)(hA:bQ E m)(x p q t v:Int)(res:Except Int (List P3))(w:World)(h:Eb E m [] x w)(hok:H8 ⟨p,q,t,v⟩)(hr:Ou E.l ⟨p,q,t,v⟩=res):
  Calls Ad 61 #[Adm E.bw,.agg (Adl p q t v)] w fun e w'=>sY E m x w e w' res:=
 Zq E m hA (Pv E.l) [] x p q t v res w h hok (Z5 _ _) (hr▸eJ hok)
end
section
open Go.Shelf Go.RowKit Go.Lib Go.Acc
def fP:Go.Shelf.Ren:=⟨fun|6=>83|15=>157|14=>156|28=>261|29=>66|20=>253|21=>254|22=>255|23=>256|24=>257|25=>258|26=>259|27=>260|46=>313|47=>314|48=>315|49=>316|50=>317|57=>350|n=>n,fun|22=>42|24=>46|25=>81|3=>3|39=>103|0=>0|53=>296|55=>26|4=>4|46=>290|45=>289|50=>183|5=>5|9=>9|66=>327|70=>331|76=>358|77=>297|n=>n,fun|n=>n⟩
theorem vT:Go.Proofs.SlLaysF0.n6 Ad fP:={
 mixed:=by kernel_rfl
 f6:=⟨Tryz.f83.name,by decide,func83.trans (congrArg some (by kernel_rfl))⟩
 f14:=⟨Tryz.f156.name,by decide,func156.trans (congrArg some (by kernel_rfl))⟩
 f15:=func157.trans (congrArg some (by kernel_rfl))
 f20:=⟨Tryz.f253.name,by decide,func253.trans (congrArg some (by kernel_rfl))⟩
 f21:=⟨Tryz.f254.name,by decide,func254.trans (congrArg some (by kernel_rfl))⟩
 f22:=⟨Tryz.f255.name,by decide,func255.trans (congrArg some (by kernel_rfl))⟩
 f23:=⟨Tryz.f256.name,by decide,func256.trans (congrArg some (by kernel_rfl))⟩
 f24:=⟨Tryz.f257.name,by decide,func257.trans (congrArg some (by kernel_rfl))⟩
 f25:=⟨Tryz.f258.name,by decide,func258.trans (congrArg some (by kernel_rfl))⟩
 f26:=⟨Tryz.f259.name,by decide,func259.trans (congrArg some (by kernel_rfl))⟩
 f27:=⟨Tryz.f260.name,by decide,func260.trans (congrArg some (by kernel_rfl))⟩
 f28:=func261.trans (congrArg some (by kernel_rfl))
 f29:=func66.trans (congrArg some (by kernel_rfl))
 f46:=⟨Tryz.f313.name,by decide,func313.trans (congrArg some (by kernel_rfl))⟩
 f47:=func314.trans (congrArg some (by kernel_rfl))
 f48:=func315.trans (congrArg some (by kernel_rfl))
 f49:=⟨Tryz.f316.name,by decide,func316.trans (congrArg some (by kernel_rfl))⟩
 f50:=⟨Tryz.f317.name,by decide,func317.trans (congrArg some (by kernel_rfl))⟩
 f57:=⟨Tryz.f350.name,by decide,func350.trans (congrArg some (by kernel_rfl))⟩
 t0:=underlying0
 a0:=isAgg0
 z0:=sizeOf0
 v0:=zeroValue0
 t3:=underlying3
 a3:=isAgg3
 z3:=sizeOf3
 v3:=zeroValue3
 t4:=underlying4
 a4:=isAgg4
 z4:=sizeOf4
 v4:=zeroValue4
 t5:=underlying5
 a5:=isAgg5
 z5:=sizeOf5
 v5:=zeroValue5
 t9:=underlying9
 a9:=isAgg9
 z9:=sizeOf9
 v9:=zeroValue9
 t22:=underlying42
 a22:=isAgg42
 z22:=sizeOf42
 v22:=zeroValue42
 t25:=underlying81
 a25:=isAgg81
 z25:=sizeOf81
 v25:=zeroValue81
 t39:=underlying103
 a39:=isAgg103
 z39:=sizeOf103
 v39:=zeroValue103
 t45:=underlying289
 a45:=isAgg289
 z45:=sizeOf289
 v45:=zeroValue289
 t46:=underlying290
 a46:=isAgg290
 z46:=sizeOf290
 v46:=zeroValue290
 t50:=underlying183
 a50:=isAgg183
 z50:=sizeOf183
 v50:=zeroValue183
 t53:=underlying296
 a53:=isAgg296
 z53:=sizeOf296
 v53:=zeroValue296
 t55:=underlying26
 a55:=isAgg26
 z55:=sizeOf26
 v55:=zeroValue26
 t66:=underlying327
 a66:=isAgg327
 z66:=sizeOf327
 v66:=zeroValue327
 t70:=underlying331
 a70:=isAgg331
 z70:=sizeOf331
 v70:=zeroValue331
 t76:=underlying358
 a76:=isAgg358
 z76:=sizeOf358
 v76:=zeroValue358
 t77:=underlying297
 a77:=isAgg297
 z77:=sizeOf297
 v77:=zeroValue297}
def lM:Go.Shelf.Ren:=⟨fun|5=>49|7=>85|n=>n,fun|22=>3|3=>3|4=>4|n=>n,fun|n=>n⟩
theorem Aao:Go.Proofs.SlLaysC2.n5 Ad lM:={
 mixed:=by kernel_rfl
 f5:=⟨Tryz.f49.name,by decide,func49.trans (congrArg some (by kernel_rfl))⟩
 f7:=⟨Tryz.f85.name,by decide,func85.trans (congrArg some (by kernel_rfl))⟩
 t3:=underlying3
 a3:=isAgg3
 z3:=sizeOf3
 v3:=zeroValue3
 t4:=underlying4
 a4:=isAgg4
 z4:=sizeOf4
 v4:=zeroValue4
 t22:=underlying3
 a22:=isAgg3
 z22:=sizeOf3
 v22:=zeroValue3}
end
section
open Go.RowKit Go.Acc
def Xt(x y z:Int):Int:=if x≠0 then x else if y≠0 then y else z
theorem yW(b:Nat)(x y z:Int)(w:World)(h0:w.cell? ⟨b,0,none⟩=some (Aa Ab x))(h1:w.cell? ⟨b,1,none⟩=some (Aa Ab y))(h2:w.cell? ⟨b,2,none⟩=some (Aa Ab z)):
  Calls Ad 48 #[.slice (some ⟨b,0,none⟩) 3 3] w (Adi (Aa Ab (Xt x y z)) w):=by
 by_cases a:x=0
 ·subst a;by_cases c:y=0
  ·subst c;by_cases d:z=0
   ·subst d;go_enter func48,ntmps48;go_wp2;refine wp_loop_rounds 4 ?_
    repeat (rw [rounds_succ];go_wp2)
    all_goals
     go_ret;exact⟨rfl,rfl⟩
   ·have h:(z != 0)=true:=by simpa using d
    have e:Xt 0 0 z=z:=rfl;rw [e];clear d e;go_enter func48,ntmps48;go_wp2;refine wp_loop_rounds 4 ?_
    repeat (rw [rounds_succ];go_wp2)
    all_goals
     go_ret;exact⟨rfl,rfl⟩
  ·have g:(y != 0)=true:=by simpa using c
   have e:Xt 0 y z=y:=by unfold Xt;rw [if_neg (by decide),if_pos c]
   rw [e];clear c e;go_enter func48,ntmps48;go_wp2;refine wp_loop_rounds 4 ?_
   repeat (rw [rounds_succ];go_wp2)
   all_goals
    go_ret;exact⟨rfl,rfl⟩
 ·have f:(x != 0)=true:=by simpa using a
  have e:Xt x y z=x:=by unfold Xt;rw [if_pos a]
  rw [e];clear a e;go_enter func48,ntmps48;go_wp2;refine wp_loop_rounds 4 ?_
  repeat (rw [rounds_succ];go_wp2)
  all_goals
   go_ret;exact⟨rfl,rfl⟩
theorem Qn(x y:Int)(r:Int)(hr:Lib.compareInt x y=r)(w:World):Calls Ad 49 #[Aa Ab x,Aa Ab y] w (Adi (Aa Ab r) w):=by
 subst hr;have h:=AnyG.cmp_Compare_int Aao x y w;change Calls Ad 49 _ _ _ at h;exact h.mono fun _ _ ⟨he,hw⟩=>⟨he,hw.symm⟩
def Zm(x y:P3):Int:=Xt (Lib.compareInt x.1 y.1) (Lib.compareInt x.2.1 y.2.1) (Lib.compareInt x.2.2 y.2.2)
theorem gX(a b c a' b' c':Int)(w:World):
  Calls Ad 47 #[.agg #[Aa Ab a,Aa Ab b,Aa Ab c],.agg #[Aa Ab a',Aa Ab b',Aa Ab c']] w fun e w'=>e= .returned (Aa Ab (Zm (a,b,c) (a',b',c')))∧∃q os,w'=Sort.grow (w.drewN q) os:=by
 obtain⟨r,d⟩:∃r,Lib.compareInt a a'=r:=⟨_,rfl⟩;obtain⟨s,f⟩:∃r,Lib.compareInt b b'=r:=⟨_,rfl⟩;obtain⟨t,ht⟩:∃r,Lib.compareInt c c'=r:=⟨_,rfl⟩;have e:Zm (a,b,c) (a',b',c')=Xt r s t:=by unfold Zm;simp only [d,f,ht]
 rw [e];have v:=Hd d;have x:=Hd f;have y:=Hd ht;clear d f ht e;go_enter func47,ntmps47;go_upto_region 1 with fail
 have p:=Hd ((Bh.new w 46 #[Aa Ab a,Aa Ab b,Aa Ab c]).alloc (.cells #[Aa Ab a',Aa Ab b',Aa Ab c'] 46));have u:=Hd (Bh.new_ (w:=w.alloc (.cells #[Aa Ab a,Aa Ab b,Aa Ab c] 46)) (g:=w.heap.size+1) (by simp) 46 #[Aa Ab a',Aa Ab b',Aa Ab c']);have n:=Hd (show ∃q os,(w.alloc (.cells #[Aa Ab a,Aa Ab b,Aa Ab c] 46)).alloc (.cells #[Aa Ab a',Aa Ab b',Aa Ab c'] 46)=Sort.grow (w.drewN q) os from⟨0,_,by rw [Sort.alloc_eq_grow,Sort.alloc_eq_grow,Sort.grow_grow];rfl⟩);generalize (w.alloc (.cells #[Aa Ab a,Aa Ab b,Aa Ab c] 46)).alloc (.cells #[Aa Ab a',Aa Ab b',Aa Ab c'] 46)=w1 at p u n⊢;obtain ⟨h,i,j⟩:=p.o.c3;obtain ⟨k,l,m⟩:=u.o.c3;have A:=Hd (show(w1.alloc (.cells #[Aa Ab r,Aa Ab s,Aa Ab t] 3)).drew.cell? ⟨w1.heap.size,0,none⟩=some (Aa Ab r) from(Bh.new w1 3 _).cell 0);have B:=Hd (show(w1.alloc (.cells #[Aa Ab r,Aa Ab s,Aa Ab t] 3)).drew.cell? ⟨w1.heap.size,1,none⟩=some (Aa Ab s) from(Bh.new w1 3 _).cell 1);have C:=Hd (show(w1.alloc (.cells #[Aa Ab r,Aa Ab s,Aa Ab t] 3)).drew.cell? ⟨w1.heap.size,2,none⟩=some (Aa Ab t) from(Bh.new w1 3 _).cell 2);go_region_held3 (fun w'=>w'.cell? ⟨w.heap.size,0,none⟩=some (Aa Ab a)∧w'.cell? ⟨w.heap.size,1,none⟩=some (Aa Ab b)∧w'.cell? ⟨w.heap.size,2,none⟩=some (Aa Ab c)∧w'.cell? ⟨w.heap.size+1,0,none⟩=some (Aa Ab a')∧w'.cell? ⟨w.heap.size+1,1,none⟩=some (Aa Ab b')∧w'.cell? ⟨w.heap.size+1,2,none⟩=some (Aa Ab c'))
  (first|with_reducible exact⟨h,i,j,k,l,m⟩|with_reducible exact⟨B3 h,B3 i,B3 j,B3 k,B3 l,B3 m⟩|with_reducible exact⟨B3 (C4 _ h),B3 (C4 _ i),B3 (C4 _ j),B3 (C4 _ k),B3 (C4 _ l),B3 (C4 _ m)⟩)
  (first
   |(go_at_call 49;(first|(with_reducible refine(Qn a a' r v.o _).mono ?_)|(with_reducible refine(Qn b b' s x.o _).mono ?_)|(with_reducible refine(Qn c c' t y.o _).mono ?_));rintro e w' ⟨rfl,rfl⟩)
   |(go_at_call 48;(with_reducible refine(yW w1.heap.size r s t _ A.o B.o C.o).mono ?_);rintro e w' ⟨rfl,rfl⟩))
 go_wp2_with fail;go_ret;obtain⟨q,os,z⟩:=n.o;rw [z];exact⟨rfl,q+1,_,by rw [Sort.alloc_eq_grow,Sort.grow_grow];rfl⟩
end
section
open Go.RowKit Go.Acc Go.Sort
def Fm(x y:P3):Prop:=x.1<y.1∨(x.1=y.1∧(x.2.1<y.2.1∨(x.2.1=y.2.1∧x.2.2<y.2.2)))
instance (x y:P3):Decidable (Fm x y):=by unfold Fm;infer_instance
theorem tN(a b:Int):(a<b∧Lib.compareInt a b= -1)∨(a=b∧Lib.compareInt a b=0)∨(b<a∧Lib.compareInt a b=1):=by
 unfold Lib.compareInt;by_cases h1:a<b
 ·simp [h1]
 ·by_cases h2:b<a
  ·simp [h1,h2]
  ·have:a=b:=by omega
   simp [this]
theorem Xc(x y:P3):ltOf Zm x y=decide (Fm x y):=by
 unfold ltOf Zm Xt Fm;rcases tN x.1 y.1 with⟨h1,e1⟩|⟨h1,e1⟩|⟨h1,e1⟩ <;>rcases tN x.2.1 y.2.1 with⟨h2,e2⟩|⟨h2,e2⟩|⟨h2,e2⟩ <;>rcases tN x.2.2 y.2.2 with⟨h3,e3⟩|⟨h3,e3⟩|⟨h3,e3⟩ <;>rw [e1,e2,e3] <;>(apply decide_eq_decide.2;simp;omega)
theorem Ac9:SWO (ltOf Zm) where
 irrefl x:=by rw [Xc];apply decide_eq_false;unfold Fm;omega
 trans x y z h1 h2:=by rw [Xc] at *;have h1:=of_decide_eq_true h1;have h2:=of_decide_eq_true h2;apply decide_eq_true;unfold Fm at *;omega
 ntrans x y z h1 h2:=by rw [Xc] at *;have h1:=of_decide_eq_false h1;have h2:=of_decide_eq_false h2;apply decide_eq_false;unfold Fm at *;omega
theorem uM(x:P3):(pc x).length=3:=rfl
theorem Ac7(x:P3):∀v∈pc x,v.oneCell'=true:=eQ x
def oI(l:List P3):Prop:=∀(i j:Nat) (hi:i<l.length) (hj:j<l.length),i<j→¬Fm l[j] l[i]
theorem nJ(B g n c:Nat)(l:List P3)(w:World)(h:F5 w B (some ⟨g,0,none⟩) n c l)(hn:n≤2147483648):
  Calls Ad 83 #[.slice (some ⟨g,0,none⟩) n c,.func (.func 47) #[] #[]] w fun e w'=>e= .returned (.tuple #[])∧∃m:List P3,m.Perm l∧oI m∧F5 w' B (some ⟨g,0,none⟩) n c m∧Fr (fun k=>k=g) w w':=by
 have z:∀args w,(callFunc 47 args).run Ad w= .ok (.enter 47 args) w:=enters_of func47 (by kernel_rfl) rfl;have f:CmpLays Ad 47 #[] pc 3 Zm g 0 l.toArray.size w:=fun _ _ _ _ x y=>gX x.1 x.2.1 x.2.2 y.1 y.2.1 y.2.2 _
 have p:g<w.heap.size:=(Q4 h.2 rfl).elim fun _ h=>h.1.lt
 have a:l.toArray.size=n:=by rw [List.size_toArray];exact h.1
 have q:=AnyQ.slices_SortFunc vT 3 isAgg46 sizeOf46 pc uM Ac7 Zm Ac9 47 #[] g 0 c l.toArray w z f (own_holds uM (by decide) h) p (by omega);rw [a] at q;change Calls Ad 83 _ _ _ at q;refine q.mono ?_;rintro e w' ⟨rfl,d,m,C,v,r,rfl⟩;have b:d.size=n:=by rw [v.1,a]
 obtain⟨h1,h2⟩:=mX uM (by decide) h d b m C;refine⟨rfl,d.toList,?_,?_,h1,h2⟩
 ·have h3:=v.2.2;rw [show d.extract 0 n=d by rw [←b];simp,show l.toArray.extract 0 n=l.toArray by rw [←a];simp] at h3;simpa using h3
 ·intro i j t u o;rw [Array.length_toList] at t u;have s:=r i j (Nat.zero_le _) o (by omega);rw [Xc,getElem!_pos d j u,getElem!_pos d i t] at s;have A:=of_decide_eq_false s;simpa using A
end
end Go.Proofs.YtejpbijeifjdeaaGreat
