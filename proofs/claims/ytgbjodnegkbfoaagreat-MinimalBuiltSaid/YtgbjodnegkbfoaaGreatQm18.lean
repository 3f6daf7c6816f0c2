/- Parts of the proof. -/
import Derived.Test.YtgbjodnegkbfoaaGreatQm17
set_option maxHeartbeats 4000000
set_option maxRecDepth 100000
open Go.Value renaming int→Aa
open Go.IntKind renaming i64→Ab
open Nat renaming le_refl→Asp,lt_of_lt_of_le→Asu
namespace Go.Proofs.YtgbjodnegkbfoaaGreat
open Go.RowKit Go.Acc
def Dz(go:Rq→List P3→Option (Except Int (List P3)))(l:List UInt8)(r:Rq):List Nat→List P3→Option (Except Int (List P3))
 | [],had=>some (.ok had)
 |i::is,had=>
  match go (Bw l r i) had with
  |none=>none
  |some (.error a)=>some (.error a)
  |some (.ok h)=>Dz go l r is h
def Ml(go:Rq→List P3→Option (Except Int (List P3)))(l:List UInt8)(r:Rq)(had:List P3):Option (Except Int (List P3)):=
 if r.t=9 then
  match go (Cl l r) had with
  |none=>none
  |some (.error a)=>some (.error a)
  |some (.ok h)=>Dz go l r (List.range (lsLen l r.p r.q r.t r.v)) h
 else Dz go l r (List.range (lsLen l r.p r.q r.t r.v)) had
def Hb(l:List UInt8)(r:Rq):P3:=(Bb l r.p r.q r.t r.v,r.t,r.v)
def Ei(l:List UInt8):Nat→Rq→List P3→Option (Except Int (List P3))
 |0,_,_=>none
 |d+1,r,had=>
  if Aw r.t=true then some (.ok had)
  else if Hb l r∈had∨r.t=4 then some (.ok had)
  else if 1<r.v∧Im l r (r.v/2)=true then some (.error (Bb l r.p r.q r.t r.v))
  else Ml (Ei l d) l r (had++ [Hb l r])
def Iz(r:Rq):Prop:=Aw r.t=true∨(Av r.v=true∧0≤r.t∧r.t<64)
theorem Aiy{x:Int}(h:Av x=true):1≤x∧x≤8:=by
 have:=By.1 h;omega
theorem Aa9(l:List UInt8)(r:Rq):Iz (Cl l r):=by
 unfold Iz Cl;by_cases h:Gh l r.p r.q r.t r.v=0
 ·refine .inr ⟨?_,by simp only;unfold J0;rw [if_pos h];decide⟩;simp only;unfold Ev;rw [if_pos h];unfold Gh at h;cases hw:Av (kyU l r.p r.q r.t r.v:Int) with
  |true=>rfl
  |false=>
   exfalso;rw [hw] at h;split at h
   ·omega
   ·split at h
    ·cases h
    ·split at h
     ·omega
     ·simp at h
 ·refine .inl ?_;simp only;unfold J0;rw [if_neg h];rfl
theorem Alj(t:Int):0≤D4 t∧D4 t<64:=by
 cases e:Jw t with
 |false=>simp [D4,Wu e]
 |true=>exact Kq (p:=fun t=>0≤D4 t∧D4 t<64) (by decide) e
theorem Aqc(t:Int)(c:UInt8):0≤(if Ce t=true then Jl c else D4 t)∧(if Ce t=true then Jl c else D4 t)<64:=by
 by_cases h:Ce t=true
 ·rw [if_pos h];unfold Jl;have:=c.toNat_lt;split <;>omega
 ·rw [if_neg h];exact Alj t
theorem Ad1(l:List UInt8)(r:Rq)(hv:Av r.v=true)(i:Nat):Iz (Bw l r i):=by
 unfold Iz Bw;by_cases h:Es l r.p r.q r.t r.v i=0
 ·refine .inr ⟨?_,by simp only;unfold Ih;rw [if_pos h];exact Aqc _ _⟩;simp only;unfold Il;rw [if_pos h];by_cases h2:Ce r.t=true
  ·rw [if_pos h2];unfold Kb;unfold Es at h;split at h
   ·contradiction
   ·split at h
    ·cases h
    ·unfold Gk at h;split at h
     ·rename_i hl;rw [if_pos hl];have hm:(Mr l r.p r.q r.t r.v i).toNat % 4<4:=Nat.mod_lt _ (by decide);generalize (Mr l r.p r.q r.t r.v i).toNat % 4=y at hm⊢;have:y=0∨y=1∨y=2∨y=3:=by omega
      rcases this with rfl|rfl|rfl|rfl <;>decide
     ·cases h
  ·rw [if_neg h2];exact hv
 ·refine .inl ?_;simp only;unfold Ih;rw [if_neg h];rfl
structure Dn(E:E0)(m:Nat)(had:List P3)(x:Int)(w:World):Prop where
 hc:E.n≤E.c
 hn:E.n≤4294967296
 b:Cd w E.A E.n E.l
 k:Ag w E.bw 81 #[.slice E.A E.n E.c,.map (some m),Aa Ab x]
 h:Ii w m had
 la:∀ad,E.A=some ad→ad.block<w.heap.size
theorem Dn.m{E:E0}{m:Nat}{had:List P3}{x:Int}{w:World}(h:Dn E m had x w):Ie E w:=⟨h.hc,h.hn,h.b,h.k.cell 0⟩
theorem Dn.pure{E:E0}{m:Nat}{had:List P3}{x:Int}{w w':World}(h:Dn E m had x w)(hb:Below w.heap.size w w'):Dn E m had x w':=⟨h.hc,h.hn,h.b.pure hb,h.k.pure hb,h.h.pure hb,fun ad e=>Asu (h.la ad e) hb.size⟩
theorem Dn.grown{E:E0}{m:Nat}{had:List P3}{x:Int}{W W':World}{row:Option Nat}{B:Nat}(h:Dn E m had x W)(hm:m<B)(hg:W.grownBy W' row)(hr:∀r,row=some r→B≤r∧∃o:Obj,W.heap[r]?=some o∧o.isCells=false):Dn E m had x W':=by
 obtain⟨es,k,hb,r⟩:=h.h;refine⟨h.hc,h.hn,⟨h.b.1,h.b.2.keep fun _ _ hc _=>cell_kept hc hg fun r e=>(hr r e).2⟩,Cw hg (fun r e=>(hr r e).2) h.k,⟨es,k,?_,r⟩,fun ad e=>Asu (h.la ad e) hg.size⟩;rw [hg.block m (Array.getElem?_eq_some_iff.1 hb).1 (fun e=>by have:=(hr m e.symm).1;omega)];exact hb
attribute [local go_sem] Oper.semAt_some
theorem Te:∀(x y:Int×Int×Int) (W:World),(Op.equal 130 (F7 x) (F7 y)).run Tryz.prog W= .ok (decide (x=y)) W:=by
 rintro⟨a,b,c⟩ ⟨a',b',c'⟩ W;by_cases h1:a=a' <;>by_cases h2:b=b' <;>by_cases h3:c=c' <;>(simp only [F7];(change (Op.equalIn 10000 _ _ _).run Tryz.prog W=_);go_simp)
theorem Td:∀(x:Int×Int×Int) (e:Bool) (W:World),(Instr.checkKey e 10000 130 (F7 x)).run Tryz.prog W= .ok () W:=by
 rintro⟨a,b,c⟩ e W
 kernel_rfl
def Ig(E:E0)(m:Nat)(k:Nat):Prop:=k=m∨k=E.bw
structure Zc(E:E0)(m:Nat):Prop where
 a:∀ad,E.A=some ad→¬Ig E m ad.block
 m:m≠E.bw
structure Lw(E:E0)(m:Nat)(had:List P3)(x p q t v:Int)(bX bR bS:Nat)(w:World):Prop where
 k:Dn E m had x w
 x:Ag w bX 78 #[.pointer (some ⟨E.bw,0,none⟩)]
 r:Ag w bR 75 #[Aa Ab p,Aa Ab q,Aa Ab t,Aa Ab v]
 s:Ag w bS 4 #[.bool false]
section
variable {E:E0} {m:Nat} {had:List P3} {x p q t v:Int} {bX bR bS:Nat} {w w':World}
theorem Lw.pure(h:Lw E m had x p q t v bX bR bS w)(hb:Below w.heap.size w w'):Lw E m had x p q t v bX bR bS w':=⟨h.k.pure hb,h.x.pure hb,h.r.pure hb,h.s.pure hb⟩
theorem Lw.grown{row:Option Nat}{B:Nat}(h:Lw E m had x p q t v bX bR bS w)(hm:m<B)(hg:w.grownBy w' row)(hr:∀r,row=some r→B≤r∧∃o:Obj,w.heap[r]?=some o∧o.isCells=false):Lw E m had x p q t v bX bR bS w':=
 ⟨h.k.grown hm hg hr,Cw hg (fun r e=>(hr r e).2) h.x,Cw hg (fun r e=>(hr r e).2) h.r,Cw hg (fun r e=>(hr r e).2) h.s⟩
theorem Ln{b m:Nat}{l:List P3}{t:TypeId}{cs:Array Value}(h:Ag w b t cs)(hm:Ii w m l):b≠m:=by
 rintro rfl;obtain⟨es,k,hb,_⟩:=hm;unfold Ag at h;rw [h] at hb;cases hb
theorem Lw.step{had':List P3}{x':Int}(h:Lw E m had x p q t v bX bR bS w)(hk:Dn E m had' x' w')(hf:Fr (Ig E m) w w'):Lw E m had' x' p q t v bX bR bS w':=
 ⟨hk,h.x.fr hf (fun hs=>hs.elim (Ln h.x h.k.h) (h.x.ne_ h.k.k (by decide))),h.r.fr hf (fun hs=>hs.elim (Ln h.r h.k.h) (h.r.ne_ h.k.k (by decide))),h.s.fr hf (fun hs=>hs.elim (Ln h.s h.k.h) (h.s.ne_ h.k.k (by decide)))⟩
theorem Dn.see(h:Dn E m had x w)(hA:Zc E m){y:P3}(hM:Ii w' m (had++ [y]))(hf:Fr (fun k=>k=m) w w'):Dn E m (had++ [y]) x w':=
 ⟨h.hc,h.hn,h.b.fr hf (fun ad e hs=>hA.a ad e (.inl hs)),h.k.fr hf (Ne.symm hA.m),hM,fun ad e=>Asu (h.la ad e) hf.size⟩
theorem Dn.note(h:Dn E m had x w)(hA:Zc E m)(a:Int):Dn E m had a (w.setCell ⟨E.bw,2,none⟩ (Aa Ab a))∧Fr (Ig E m) w (w.setCell ⟨E.bw,2,none⟩ (Aa Ab a)):=by
 have hf:Fr (fun k=>k=E.bw) w (w.setCell ⟨E.bw,2,none⟩ (Aa Ab a)):=Fr.setCell (S:=fun k=>k=E.bw) (Fr.refl _ _) (fun _=>rfl) _;exact⟨⟨h.hc,h.hn,h.b.fr hf (fun ad e hs=>hA.a ad e (.inr hs)),h.k.set_ 2 _,h.h.fr hf hA.m,fun ad e=>Asu (h.la ad e) hf.size⟩,hf.mono fun _ _ h=> .inr h⟩
theorem Dn.far{n0 g:Nat}(h:Dn E m had x w)(hA:∀ad,E.A=some ad→ad.block<n0)(hm:m<n0)(hw:E.bw<n0)(hg:n0≤g)(u:Value):Dn E m had x (w.setCell ⟨g,0,none⟩ u):=by
 have hf:Fr (fun k=>k=g) w (w.setCell ⟨g,0,none⟩ u):=Fr.setCell (S:=fun k=>k=g) (Fr.refl _ _) (fun _=>rfl) _;exact⟨h.hc,h.hn,h.b.fr hf (fun ad e hs=>by have:=hA ad e;omega),h.k.fr hf (by omega),h.h.fr hf (by omega),fun ad e=>Asu (h.la ad e) hf.size⟩
theorem Mb{S:Nat→Prop}{w0:World}{n0 g:Nat}(h:Fr S w0 w)(hn:w0.heap.size=n0)(hg:n0≤g)(u:Value):Fr S w0 (w.setCell ⟨g,0,none⟩ u):=h.setCell (p:=⟨g,0,none⟩) (fun hl=>by simp only at hl;omega) u
end
theorem Sa(go:Rq→List P3→Option (Except Int (List P3)))(l:List UInt8)(r:Rq):∀(is:List Nat) (i:Nat) (h h':List P3),Dz go l r is h=some (.ok h')→Dz go l r (is++ [i]) h=go (Bw l r i) h'
 | [],i,h,h',e=>by
  simp only [Dz,Option.some.injEq,Except.ok.injEq] at e;subst e;rw [List.nil_append];unfold Dz;cases go (Bw l r i) h with
  |none=>rfl
  |some e=>cases e <;>rfl
 |j::is,i,h,h',e=>by
  rw [List.cons_append];unfold Dz at e⊢;cases hg:go (Bw l r j) h with
  |none=>rw [hg] at e;cases e
  |some u=>
   rw [hg] at e;cases u with
   |error a=>cases e
   |ok h1=>exact Sa go l r is i h1 h' e
theorem Vj(go:Rq→List P3→Option (Except Int (List P3)))(l:List UInt8)(r:Rq)(a:Int):∀(is js:List Nat) (h:List P3),Dz go l r is h=some (.error a)→Dz go l r (is++js) h=some (.error a)
 | [],js,h,e=>by simp [Dz] at e
 |j::is,js,h,e=>by
  rw [List.cons_append];unfold Dz at e⊢;cases hg:go (Bw l r j) h with
  |none=>rw [hg] at e;cases e
  |some u=>
   rw [hg] at e;cases u with
   |error b=>exact e
   |ok h1=>exact Vj go l r a is js h1 e
theorem Ain{S:Nat→Prop}{w W:World}{D:Nat}{o o':Obj}(h:Fr S w W)(hD:w.heap.size≤D)(_:W.heap[D]?=some o):Fr S w (W.putObj D o'):=by
 have hg:=grownBy_putObj' W D o';exact⟨hg.os.trans h.os,hg.tape.trans h.tape,hg.output.trans h.output,Nat.le_trans h.size hg.size,fun k hk hk2=>(hg.block k (Asu hk h.size) (fun e=>by cases e;omega)).trans (h.block k hk hk2)⟩
theorem Aac(N:Nat):(List.finRange N).map (·.val)=List.range N:=List.ext_getElem (by simp) (by intros;simp)
theorem Qn{E:E0}{m B:Nat}{W W':World}(h:Fr (Ig E m) W W')(hm:m<B)(hw:E.bw<B):KeepsFrom B W W':=
 ⟨h.size,fun k _ hB hk _=>(h.block k (Array.getElem?_eq_some_iff.1 hk).1 (fun e=>by rcases e with e|e <;>omega)).trans hk⟩
def Aku(E:E0)(m:Nat)(x:Int)(w:World)(e:Ending)(w':World):Except Int (List P3)→Prop
 | .ok had=>e= .returned (.bool true)∧Dn E m had x w'∧Fr (Ig E m) w w'
 | .error a=>e= .returned (.bool false)∧(∃had,Dn E m had a w')∧Fr (Ig E m) w w'
def Ae3(E:E0)(m:Nat)(go:Rq→List P3→Option (Except Int (List P3)))(Pd:List P3→Prop):Prop:=∀(had:List P3) (x p q t v:Int) (res:Except Int (List P3)) (w:World),Dn E m had x w→Iz ⟨p,q,t,v⟩→Pd had→go ⟨p,q,t,v⟩ had=some res→
 Calls Tryz.prog 46 #[.pointer (some ⟨E.bw,0,none⟩),.agg #[Aa Ab p,Aa Ab q,Aa Ab t,Aa Ab v]] w fun e w'=>Aku E m x w e w' res
theorem Afv(E:E0)(m:Nat)(hAP:Zc E m)(d:Nat)(Pd Pd1:List P3→Prop)(IH:Ae3 E m (Ei E.l d) Pd)(hT:∀r h,Iz r→Pd h→∃res,Ei E.l d r h=some res∧∀h',res= .ok h'→Pd h')(hS:∀r had,Iz r→Aw r.t=false→Pd1 had→Hb E.l r∉had→Pd (had++ [Hb E.l r])):Ae3 E m (Ei E.l (d+1)) Pd1:=by
 intro had x p q t v res w hL hok hP1 hgo;have HTT:=Hd hT;have HSP:=Hd (fun h1 h2=>hS ⟨p,q,t,v⟩ had hok h1 hP1 h2);clear hT hS hP1;have hcc:=hL.hc;have hnn:=hL.hn;have HG:=Hd hgo;have HOK:=Hd hok;have HIH:=Hd IH;have HAP:=Hd hAP;refine callsIn_wide.1 (callsIn_of_wp_marks (n:=6) Tryz.func46 rfl trivial (wpIn_wide.2 ?_));simp only [Tryz.ntmps46,List.size_toArray,List.length_cons,List.length_nil,Nat.reduceAdd,Nat.reduceSub,Array.replicate_succ,Array.replicate_zero,List.push_toArray,List.append_toArray,List.nil_append,List.cons_append];have hBW:Below w.heap.size w ((((w.alloc (.cells #[.pointer (some ⟨E.bw,0,none⟩)] 78)).alloc (.cells #[Aa Ab p,Aa Ab q,Aa Ab t,Aa Ab v] 75))).alloc (.cells #[.bool false] 4)):=
  (((Below.refl _ _).alloc (Asp _) _).alloc (by simp) _).alloc (by simp <;>omega) _
 have HI:=Hd (show Lw E m had x p q t v w.heap.size (w.heap.size+1) (w.heap.size+1+1) ((((w.alloc (.cells #[.pointer (some ⟨E.bw,0,none⟩)] 78)).alloc (.cells #[Aa Ab p,Aa Ab q,Aa Ab t,Aa Ab v] 75))).alloc (.cells #[.bool false] 4)) from
  ⟨hL.pure hBW,((Ag.new w _ _).alloc _).alloc _,(Ag.new_ (by simp) _ _).alloc _,Ag.new_ (by simp) _ _⟩)
 have HB:=Hd (Fr.of_below hBW (Ig E m));have HLA:=Hd hL.la;have HLM:=Hd hL.h.lt;have HLW:=Hd hL.k.lt;clear hL hgo hok IH hBW hAP;go_upto_region 1 with fail
 have HSL:=Hd (show w.heap.size≤w.heap.size+1+1 by omega);generalize (((w.alloc (.cells #[.pointer (some ⟨E.bw,0,none⟩)] 78)).alloc (.cells #[Aa Ab p,Aa Ab q,Aa Ab t,Aa Ab v] 75))).alloc (.cells #[.bool false] 4)=w1 at HI HB⊢;generalize w.heap.size+1+1=bS at HI HSL⊢;generalize w.heap.size+1=bR at HI⊢;obtain⟨bX,hbx⟩:∃x,w.heap.size=x:=⟨_,rfl⟩;have HBX:=Hd hbx;rw [hbx] at HI⊢;clear hbx;have c0:_=some (Value.slice E.A E.n E.c):=HI.o.k.k.cell 0;have c1:_=some (Value.map (some m)):=HI.o.k.k.cell 1;have b0:_=some (Value.pointer (some ⟨E.bw,0,none⟩)):=HI.o.x.cell 0;have x0:=Al HI.o.r;have x1:=Ak HI.o.r;have x2:=Aj HI.o.r;have x3:=Am HI.o.r;go_wp2_with fail;go_at_call 90;obtain⟨il,hil⟩:∃b,Aw t=b:=⟨_,rfl⟩;refine(Mz t il _ hil).mono ?_;rintro e w2 ⟨rfl,hb⟩;replace HB:=Hd (HB.o.trans (Fr.of_below hb (Ig E m)) fun _ _ h=>h);replace HI:=Hd (HI.o.pure hb);clear c0 c1 b0 x0 x1 x2 x3;clear hb;have c0:_=some (Value.slice E.A E.n E.c):=HI.o.k.k.cell 0;have c1:_=some (Value.map (some m)):=HI.o.k.k.cell 1;have b0:_=some (Value.pointer (some ⟨E.bw,0,none⟩)):=HI.o.x.cell 0;have x0:=Al HI.o.r;have x1:=Ak HI.o.r;have x2:=Aj HI.o.r;have x3:=Am HI.o.r;cases il with
 |true=>
  have hres:res= .ok had:=by
   have h:=HG.o;unfold Ei at h;rw [if_pos hil] at h;injection h with h
   exact h.symm
  subst hres;clear hil;have s0:_=some (Value.bool false):=HI.o.s.cell 0;have s1:=HI.o.s.frozen 0;have HT:=Hd (HI.o.s.set_ 0 (.bool true));have s2:_=some (Value.bool true):=HT.o.cell 0;go_wp2_with fail;refine⟨.bool true,?_,?_⟩
  ·simp [results,Tryz.f46,go_sem,s2]
  ·exact⟨rfl,HI.o.k.far HLA.o HLM.o HLW.o HSL.o _,Mb HB.o rfl HSL.o _⟩
 |false=>
  obtain⟨a,ha⟩:∃a,Bb E.l p q t v=a:=⟨_,rfl⟩;obtain⟨er,her⟩:∃a,Bh E.l p q t v=a:=⟨_,rfl⟩;have HA:=Hd ha;have HER:=Hd her;have HIL:=Hd hil;clear ha her hil;go_wp2_with fail;go_region_held3 (fun w'=>w'.cell? ⟨bX,0,none⟩=some (.pointer (some ⟨E.bw,0,none⟩))∧w'.cell? ⟨E.bw,0,none⟩=some (.slice E.A E.n E.c)∧(w'.cell? ⟨bR,0,none⟩=some (Aa Ab p)∧w'.cell? ⟨bR,1,none⟩=some (Aa Ab q)∧w'.cell? ⟨bR,2,none⟩=some (Aa Ab t)∧w'.cell? ⟨bR,3,none⟩=some (Aa Ab v))) (first|with_reducible exact⟨b0,c0,x0,x1,x2,x3⟩|with_reducible exact⟨Ah b0,Ah c0,Ah x0,Ah x1,Ah x2,Ah x3⟩) (first|(go_at_call 91;(with_reducible refine(Ym E.A E.n E.c p q t v a er E.l _ HI.o.k.m.drew.b hcc (by omega) HA.o HER.o).mono ?_);rintro e w5 ⟨rfl,hb⟩;have hb2:=Be (Cm w2) hb;clear hb;replace HB:=Hd (HB.o.trans (Fr.of_below hb2 (Ig E m)) fun _ _ h=>h);replace HI:=Hd (HI.o.pure hb2);clear c0 c1 b0 x0 x1 x2 x3;clear hb2;have c0:_=some (Value.slice E.A E.n E.c):=HI.o.k.k.cell 0;have c1:_=some (Value.map (some m)):=HI.o.k.k.cell 1;have b0:_=some (Value.pointer (some ⟨E.bw,0,none⟩)):=HI.o.x.cell 0;have x0:=Al HI.o.r;have x1:=Ak HI.o.r;have x2:=Aj HI.o.r;have x3:=Am HI.o.r));go_upto_region 5 with fail
  have HY:=Hd (Ag.new w5 130 #[Aa Ab a,Aa Ab t,Aa Ab v]);have hba:Below w5.heap.size w5 (w5.alloc (.cells #[Aa Ab a,Aa Ab t,Aa Ab v] 130)):=(Below.refl _ _).alloc (Asp _) _;replace HI:=Hd (HI.o.pure hba);replace HB:=Hd (HB.o.trans (Fr.of_below hba (Ig E m)) fun _ _ h=>h);clear c0 c1 b0 x0 x1 x2 x3;clear hba;generalize w5.alloc (.cells #[Aa Ab a,Aa Ab t,Aa Ab v] 130)=w6 at HI HB HY⊢;generalize w5.heap.size=bY at HY⊢;have c0:_=some (Value.slice E.A E.n E.c):=HI.o.k.k.cell 0;have c1:_=some (Value.map (some m)):=HI.o.k.k.cell 1;have b0:_=some (Value.pointer (some ⟨E.bw,0,none⟩)):=HI.o.x.cell 0;have x0:=Al HI.o.r;have x1:=Ak HI.o.r;have x2:=Aj HI.o.r;have x3:=Am HI.o.r;obtain ⟨y0,y1,y2⟩:=HY.o.c3;have hun:Ei E.l (d+1) ⟨p,q,t,v⟩ had=if(a,t,v)∈had∨t=4 then some (.ok had) else if 1<v∧Im E.l ⟨p,q,t,v⟩ (v/2)=true then some (.error a) else Ml (Ei E.l d) E.l ⟨p,q,t,v⟩ (had++ [(a,t,v)]):=by
   unfold Ei Hb;simp only [HA.o,HIL.o];rw [if_neg (by decide)]
  have HUN:=Hd (hun.symm.trans HG.o);clear hun;by_cases hm:(a,t,v)∈had
  ·have hlk:∀k,(Instr.lookup 79 (.map (some m)) (.agg #[Aa Ab a,Aa Ab t,Aa Ab v]) false).run Tryz.prog (w6.drewN k)= .ok (.bool true) (w6.drewN k):=by
    intro k;have:=M9 Tryz.underlying79 Tryz.underlying130 Te Td Na m had (a,t,v) (w6.drewN k) (HI.o.k.pure (below_drewN (Below.refl _ _) k)).h;rw [decide_eq_true hm] at this;exact this
   have hres:res= .ok had:=by
    have h:=HUN.o;rw [if_pos (.inl hm)] at h;injection h with h
    exact h.symm
   subst hres;clear hm;go_quiet (fail);have HI7:=Hd (HI.o.pure (below_drewN (Below.refl _ _) nq));have HB7:=Hd (HB.o.drewN nq);generalize w6.drewN nq=w7 at HI7 HB7⊢;clear HI HB hlk;have HI:=HI7;have HB:=HB7;clear HI7 HB7;have s0:_=some (Value.bool false):=HI.o.s.cell 0;have s1:=HI.o.s.frozen 0;have HT:=Hd (HI.o.s.set_ 0 (.bool true));have s2:_=some (Value.bool true):=HT.o.cell 0;go_wp2_with fail;refine⟨.bool true,?_,?_⟩
   ·simp [results,Tryz.f46,go_sem,s2]
   ·exact⟨rfl,HI.o.k.far HLA.o HLM.o HLW.o HSL.o _,Mb HB.o rfl HSL.o _⟩
  ·have hlk:(Instr.lookup 79 (.map (some m)) (.agg #[Aa Ab a,Aa Ab t,Aa Ab v]) false).run Tryz.prog w6.drew= .ok (.bool false) w6.drew:=by
    have:=M9 Tryz.underlying79 Tryz.underlying130 Te Td Na m had (a,t,v) w6.drew (HI.o.k.pure (Cm _)).h;rw [decide_eq_false hm] at this;exact this
   by_cases h4:t=4
   ·have hres:res= .ok had:=by
     have h:=HUN.o;rw [if_pos (.inr h4)] at h;injection h with h
     exact h.symm
    subst hres;have e4:(t==4)=true:=beq_iff_eq.2 h4;clear hm h4;go_region_held3 (fun w'=>w'.cell? ⟨bX,0,none⟩=some (.pointer (some ⟨E.bw,0,none⟩))∧w'.cell? ⟨E.bw,1,none⟩=some (.map (some m))∧w'.cell? ⟨bR,2,none⟩=some (Aa Ab t)∧(w'.cell? ⟨bY,0,none⟩=some (Aa Ab a)∧w'.cell? ⟨bY,1,none⟩=some (Aa Ab t)∧w'.cell? ⟨bY,2,none⟩=some (Aa Ab v))) (first|with_reducible exact⟨b0,c1,x2,y0,y1,y2⟩|with_reducible exact⟨Ah b0,Ah c1,Ah x2,Ah y0,Ah y1,Ah y2⟩) (fail);have s0:_=some (Value.bool false):=HI.o.s.cell 0;have s1:=HI.o.s.frozen 0;have HT:=Hd (HI.o.s.set_ 0 (.bool true));have s2:_=some (Value.bool true):=HT.o.cell 0;have s3:((w6.setCell ⟨bS,0,none⟩ (.bool true)).drew).cell? ⟨bS,0,none⟩=some (.bool true):=s2;go_wp2_with fail;refine⟨.bool true,?_,?_⟩
    ·simp [results,Tryz.f46,go_sem,s3]
    ·exact⟨rfl,(HI.o.k.far HLA.o HLM.o HLW.o HSL.o _).pure (Cm _),(Mb HB.o rfl HSL.o _).drew⟩
   ·have e4:(t==4)=false:=beq_eq_false_iff_ne.mpr h4;obtain⟨w7,hins,hM7,hf7,hsz7⟩:=Abr Tryz.underlying79 Tryz.underlying130 Te Td m had (a,t,v) w6.drew.drew (HI.o.k.pure (Be (Cm _) (Cm _))).h hm;replace hins:(Instr.mapUpdate 79 (.map (some m)) (.agg #[.int .i64 a,.int .i64 t,.int .i64 v]) (.bool true)).run Tryz.prog w6.drew.drew= .ok () w7:=hins;have HK7:=Hd ((HI.o.k.pure (Be (Cm _) (Cm _))).see HAP.o hM7 hf7);have hF7:Fr (Ig E m) w6.drew.drew w7:=hf7.mono fun _ _ h=> .inl h
    have HI7:=Hd ((HI.o.pure (Be (Cm _) (Cm _))).step HK7.o hF7);have HB7:=Hd (HB.o.drew.drew.trans hF7 fun _ _ h=>h);have HY7:=Hd (HY.o.fr (Fr.trans (S:=Ig E m) (Fr.of_below (Be (Cm _) (Cm _)) _) hF7 fun _ _ h=>h) (fun hs=>hs.elim (Ln HY.o HI.o.k.h) (HY.o.ne_ HI.o.k.k (by decide))));have d1:_=some (Value.map (some m)):=HK7.o.k.cell 1;have d2:_=some (Value.pointer (some ⟨E.bw,0,none⟩)):=HI7.o.x.cell 0;have d3:=Aj HI7.o.r;obtain ⟨z0,z1,z2⟩:=HY7.o.c3;have hr:=HUN.o;rw [if_neg (by rintro(h|h);exact hm h;exact h4 h)] at hr;have HR:=Hd hr;have HT4:=Hd h4;have hpd:Pd (had++ [(a,t,v)]):=by
     have h:=HSP.o HIL.o (by unfold Hb;simp only [HA.o];exact hm);unfold Hb at h;simp only [HA.o] at h;exact h
    have HPD:=Hd hpd;clear hpd HSP;clear hr hm hM7 hf7 hsz7 hF7 HUN HG h4;go_region_held3 (fun w'=>w'.cell? ⟨bX,0,none⟩=some (.pointer (some ⟨E.bw,0,none⟩))∧w'.cell? ⟨E.bw,1,none⟩=some (.map (some m))∧w'.cell? ⟨bR,2,none⟩=some (Aa Ab t)∧(w'.cell? ⟨bY,0,none⟩=some (Aa Ab a)∧w'.cell? ⟨bY,1,none⟩=some (Aa Ab t)∧w'.cell? ⟨bY,2,none⟩=some (Aa Ab v))) (first|with_reducible exact⟨b0,c1,x2,y0,y1,y2⟩|with_reducible exact⟨Ah b0,Ah c1,Ah x2,Ah y0,Ah y1,Ah y2⟩) (fail);go_wp2_with fail;go_region_held3 (fun w'=>w'.cell? ⟨bX,0,none⟩=some (.pointer (some ⟨E.bw,0,none⟩))∧w'.cell? ⟨E.bw,1,none⟩=some (.map (some m))∧w'.cell? ⟨bR,2,none⟩=some (Aa Ab t)∧(w'.cell? ⟨bY,0,none⟩=some (Aa Ab a)∧w'.cell? ⟨bY,1,none⟩=some (Aa Ab t)∧w'.cell? ⟨bY,2,none⟩=some (Aa Ab v))) (first|with_reducible exact⟨b0,c1,x2,y0,y1,y2⟩|with_reducible exact⟨Ah b0,Ah c1,Ah x2,Ah y0,Ah y1,Ah y2⟩|with_reducible exact⟨Ah (Ah b0),Ah (Ah c1),Ah (Ah x2),Ah (Ah y0),Ah (Ah y1),Ah (Ah y2)⟩|with_reducible exact⟨d2,d1,d3,z0,z1,z2⟩) (fail);clear hlk hins d1 d2 d3 z0 z1 z2 y0 y1 y2 HY HY7 HK7 e4;clear c0 c1 b0 x0 x1 x2 x3;clear HI HB;have HI:=HI7;have HB:=HB7;clear HI7 HB7;generalize had++ [(a,t,v)]=had1 at HI HR HPD;have c0:_=some (Value.slice E.A E.n E.c):=HI.o.k.k.cell 0;have c1:_=some (Value.map (some m)):=HI.o.k.k.cell 1;have b0:_=some (Value.pointer (some ⟨E.bw,0,none⟩)):=HI.o.x.cell 0;have x0:=Al HI.o.r;have x1:=Ak HI.o.r;have x2:=Aj HI.o.r;have x3:=Am HI.o.r;have hvw:Av v=true:=HOK.o.elim (fun h=>by have h2:=HIL.o;simp only at h;rw [h2] at h;cases h) (fun h=>h.1);have HVW:=Hd hvw;have hvv:1≤v∧v≤8:=Aiy hvw;clear hvw;go_wp2_with fail;obtain⟨fs,hfs⟩:∃b,Im E.l ⟨p,q,t,v⟩ (v/2)=b:=⟨_,rfl⟩;have HFS:=Hd hfs;clear hfs;go_cut [59] from 12 to 88 (fun u59 wx=>∃wy,wy=wx∧u59= .bool (decide (1<v∧fs=true))∧Below w7.heap.size w7 wx)
    case first=>
     by_cases hv1:1<v
     ·have hd1:decide (1<v)=true:=decide_eq_true hv1;have hdv:IntKind.i64.wrap (v.tdiv 2)=v/2:=by rw [Int.tdiv_eq_ediv_of_nonneg (by omega)];exact IntWalk.i64_in _ (by omega)
      have HSF:=Hd (show decide (1<v∧fs=true)=fs by cases fs <;>simp [hv1]);have HQ:=Hd (Below.refl w7.heap.size w7);clear HB;have hf8:1≤v/2∧v/2≤8:=by omega
      have hf':=HFS.o;unfold Im at hf';simp only at hf';by_cases h5:t=5∨t=25
      ·have hmf:O3 t=169:=if_pos h5;rw [if_pos h5] at hf';have HF':=Hd hf';clear hf' h5;have HFIT:=Hd (fun W:World=>Rj E t W);rw [hmf] at HFIT;go_region_held3 (fun w'=>w'.cell? ⟨bX,0,none⟩=some (.pointer (some ⟨E.bw,0,none⟩))∧w'.cell? ⟨E.bw,0,none⟩=some (.slice E.A E.n E.c)∧(w'.cell? ⟨bR,0,none⟩=some (Aa Ab p)∧w'.cell? ⟨bR,1,none⟩=some (Aa Ab q)∧w'.cell? ⟨bR,2,none⟩=some (Aa Ab t)∧w'.cell? ⟨bR,3,none⟩=some (Aa Ab v))) (first|with_reducible exact⟨b0,c0,x0,x1,x2,x3⟩|with_reducible exact⟨Ah b0,Ah c0,Ah x0,Ah x1,Ah x2,Ah x3⟩) (first|(go_at_call 92;(with_reducible refine(HFIT.o _).mono ?_);rintro e w8 ⟨rfl,hb⟩;have hb2:=Be (Cm w7) hb;replace HQ:=Hd (Be HQ.o hb2);replace HI:=Hd (HI.o.pure hb2);clear c0 c1 b0 x0 x1 x2 x3;clear hb hb2;have c0:_=some (Value.slice E.A E.n E.c):=HI.o.k.k.cell 0;have c1:_=some (Value.map (some m)):=HI.o.k.k.cell 1;have b0:_=some (Value.pointer (some ⟨E.bw,0,none⟩)):=HI.o.x.cell 0;have x0:=Al HI.o.r;have x1:=Ak HI.o.r;have x2:=Aj HI.o.r;have x3:=Am HI.o.r)|(go_at_call 169;(with_reducible refine(Al9 E p q t v (v/2) fs _ HI.o.k.m HF'.o).mono ?_);rintro e w9 ⟨rfl,hb⟩;replace HQ:=Hd (Be HQ.o hb);replace HI:=Hd (HI.o.pure hb);clear c0 c1 b0 x0 x1 x2 x3;clear hb;have c0:_=some (Value.slice E.A E.n E.c):=HI.o.k.k.cell 0;have c1:_=some (Value.map (some m)):=HI.o.k.k.cell 1;have b0:_=some (Value.pointer (some ⟨E.bw,0,none⟩)):=HI.o.x.cell 0;have x0:=Al HI.o.r;have x1:=Ak HI.o.r;have x2:=Aj HI.o.r;have x3:=Am HI.o.r));go_wp2_with fail;go_meet;rw [HSF.o];exact⟨_,rfl,rfl,HQ.o⟩
      by_cases h6:t=6
      ·have hmf:O3 t=170:=by rw [h6];rfl
       rw [if_neg h5,if_pos h6] at hf';have HF':=Hd hf';clear hf' h5 h6;have HFIT:=Hd (fun W:World=>Rj E t W);rw [hmf] at HFIT;go_region_held3 (fun w'=>w'.cell? ⟨bX,0,none⟩=some (.pointer (some ⟨E.bw,0,none⟩))∧w'.cell? ⟨E.bw,0,none⟩=some (.slice E.A E.n E.c)∧(w'.cell? ⟨bR,0,none⟩=some (Aa Ab p)∧w'.cell? ⟨bR,1,none⟩=some (Aa Ab q)∧w'.cell? ⟨bR,2,none⟩=some (Aa Ab t)∧w'.cell? ⟨bR,3,none⟩=some (Aa Ab v))) (first|with_reducible exact⟨b0,c0,x0,x1,x2,x3⟩|with_reducible exact⟨Ah b0,Ah c0,Ah x0,Ah x1,Ah x2,Ah x3⟩) (first|(go_at_call 92;(with_reducible refine(HFIT.o _).mono ?_);rintro e w8 ⟨rfl,hb⟩;have hb2:=Be (Cm w7) hb;replace HQ:=Hd (Be HQ.o hb2);replace HI:=Hd (HI.o.pure hb2);clear c0 c1 b0 x0 x1 x2 x3;clear hb hb2;have c0:_=some (Value.slice E.A E.n E.c):=HI.o.k.k.cell 0;have c1:_=some (Value.map (some m)):=HI.o.k.k.cell 1;have b0:_=some (Value.pointer (some ⟨E.bw,0,none⟩)):=HI.o.x.cell 0;have x0:=Al HI.o.r;have x1:=Ak HI.o.r;have x2:=Aj HI.o.r;have x3:=Am HI.o.r)|(go_at_call 170;(with_reducible refine(Aoz E p q t v (v/2) fs _ HI.o.k.m HF'.o).mono ?_);rintro e w9 ⟨rfl,hb⟩;replace HQ:=Hd (Be HQ.o hb);replace HI:=Hd (HI.o.pure hb);clear c0 c1 b0 x0 x1 x2 x3;clear hb;have c0:_=some (Value.slice E.A E.n E.c):=HI.o.k.k.cell 0;have c1:_=some (Value.map (some m)):=HI.o.k.k.cell 1;have b0:_=some (Value.pointer (some ⟨E.bw,0,none⟩)):=HI.o.x.cell 0;have x0:=Al HI.o.r;have x1:=Ak HI.o.r;have x2:=Aj HI.o.r;have x3:=Am HI.o.r));go_wp2_with fail;go_meet;rw [HSF.o];exact⟨_,rfl,rfl,HQ.o⟩
      by_cases h7:t=7
      ·have hmf:O3 t=171:=by rw [h7];rfl
       rw [if_neg h5,if_neg h6,if_pos h7] at hf';have HF':=Hd hf';clear hf' h5 h6 h7;have HFIT:=Hd (fun W:World=>Rj E t W);rw [hmf] at HFIT;go_region_held3 (fun w'=>w'.cell? ⟨bX,0,none⟩=some (.pointer (some ⟨E.bw,0,none⟩))∧w'.cell? ⟨E.bw,0,none⟩=some (.slice E.A E.n E.c)∧(w'.cell? ⟨bR,0,none⟩=some (Aa Ab p)∧w'.cell? ⟨bR,1,none⟩=some (Aa Ab q)∧w'.cell? ⟨bR,2,none⟩=some (Aa Ab t)∧w'.cell? ⟨bR,3,none⟩=some (Aa Ab v))) (first|with_reducible exact⟨b0,c0,x0,x1,x2,x3⟩|with_reducible exact⟨Ah b0,Ah c0,Ah x0,Ah x1,Ah x2,Ah x3⟩) (first|(go_at_call 92;(with_reducible refine(HFIT.o _).mono ?_);rintro e w8 ⟨rfl,hb⟩;have hb2:=Be (Cm w7) hb;replace HQ:=Hd (Be HQ.o hb2);replace HI:=Hd (HI.o.pure hb2);clear c0 c1 b0 x0 x1 x2 x3;clear hb hb2;have c0:_=some (Value.slice E.A E.n E.c):=HI.o.k.k.cell 0;have c1:_=some (Value.map (some m)):=HI.o.k.k.cell 1;have b0:_=some (Value.pointer (some ⟨E.bw,0,none⟩)):=HI.o.x.cell 0;have x0:=Al HI.o.r;have x1:=Ak HI.o.r;have x2:=Aj HI.o.r;have x3:=Am HI.o.r)|(go_at_call 171;(with_reducible refine(Ama E p q t v (v/2) fs _ HI.o.k.m HF'.o).mono ?_);rintro e w9 ⟨rfl,hb⟩;replace HQ:=Hd (Be HQ.o hb);replace HI:=Hd (HI.o.pure hb);clear c0 c1 b0 x0 x1 x2 x3;clear hb;have c0:_=some (Value.slice E.A E.n E.c):=HI.o.k.k.cell 0;have c1:_=some (Value.map (some m)):=HI.o.k.k.cell 1;have b0:_=some (Value.pointer (some ⟨E.bw,0,none⟩)):=HI.o.x.cell 0;have x0:=Al HI.o.r;have x1:=Ak HI.o.r;have x2:=Aj HI.o.r;have x3:=Am HI.o.r));go_wp2_with fail;go_meet;rw [HSF.o];exact⟨_,rfl,rfl,HQ.o⟩
      have hmf:O3 t=172:=by unfold O3;rw [if_neg h5,if_neg h6,if_neg h7]
      rw [if_neg h5,if_neg h6,if_neg h7] at hf';have HF':=Hd hf';clear hf' h5 h6 h7;have HFIT:=Hd (fun W:World=>Rj E t W);rw [hmf] at HFIT;go_region_held3 (fun w'=>w'.cell? ⟨bX,0,none⟩=some (.pointer (some ⟨E.bw,0,none⟩))∧w'.cell? ⟨E.bw,0,none⟩=some (.slice E.A E.n E.c)∧(w'.cell? ⟨bR,0,none⟩=some (Aa Ab p)∧w'.cell? ⟨bR,1,none⟩=some (Aa Ab q)∧w'.cell? ⟨bR,2,none⟩=some (Aa Ab t)∧w'.cell? ⟨bR,3,none⟩=some (Aa Ab v))) (first|with_reducible exact⟨b0,c0,x0,x1,x2,x3⟩|with_reducible exact⟨Ah b0,Ah c0,Ah x0,Ah x1,Ah x2,Ah x3⟩) (first|(go_at_call 92;(with_reducible refine(HFIT.o _).mono ?_);rintro e w8 ⟨rfl,hb⟩;have hb2:=Be (Cm w7) hb;replace HQ:=Hd (Be HQ.o hb2);replace HI:=Hd (HI.o.pure hb2);clear c0 c1 b0 x0 x1 x2 x3;clear hb hb2;have c0:_=some (Value.slice E.A E.n E.c):=HI.o.k.k.cell 0;have c1:_=some (Value.map (some m)):=HI.o.k.k.cell 1;have b0:_=some (Value.pointer (some ⟨E.bw,0,none⟩)):=HI.o.x.cell 0;have x0:=Al HI.o.r;have x1:=Ak HI.o.r;have x2:=Aj HI.o.r;have x3:=Am HI.o.r)|(go_at_call 172;(with_reducible refine(Al8 E p q t v (v/2) fs _ HI.o.k.m hvv hf8 HF'.o).mono ?_);rintro e w9 ⟨rfl,hb⟩;replace HQ:=Hd (Be HQ.o hb);replace HI:=Hd (HI.o.pure hb);clear c0 c1 b0 x0 x1 x2 x3;clear hb;have c0:_=some (Value.slice E.A E.n E.c):=HI.o.k.k.cell 0;have c1:_=some (Value.map (some m)):=HI.o.k.k.cell 1;have b0:_=some (Value.pointer (some ⟨E.bw,0,none⟩)):=HI.o.x.cell 0;have x0:=Al HI.o.r;have x1:=Ak HI.o.r;have x2:=Aj HI.o.r;have x3:=Am HI.o.r));go_wp2_with fail;go_meet;rw [HSF.o];exact⟨_,rfl,rfl,HQ.o⟩
     ·have hd1:decide (1<v)=false:=decide_eq_false hv1;have HSF:=Hd (show decide (1<v∧fs=true)=false from decide_eq_false fun h=>hv1 h.1);go_quiet (fail);go_wp2_with fail;go_meet;rw [HSF.o];exact⟨_,rfl,rfl,below_drewN (Below.refl _ _) _⟩
    case rest=>
    obtain⟨w8,rfl,rfl,hb⟩:=hcut;replace HB:=Hd (HB.o.trans (Fr.of_below hb (Ig E m)) fun _ _ h=>h);replace HI:=Hd (HI.o.pure hb);clear c0 c1 b0 x0 x1 x2 x3;clear hb;have c0:_=some (Value.slice E.A E.n E.c):=HI.o.k.k.cell 0;have c1:_=some (Value.map (some m)):=HI.o.k.k.cell 1;have b0:_=some (Value.pointer (some ⟨E.bw,0,none⟩)):=HI.o.x.cell 0;have x0:=Al HI.o.r;have x1:=Ak HI.o.r;have x2:=Aj HI.o.r;have x3:=Am HI.o.r;by_cases hc:1<v∧fs=true
    ·have hd:decide (1<v∧fs=true)=true:=decide_eq_true hc;rw [hd];have hres:res= .error a:=by
      have h:=HR.o;rw [HFS.o,if_pos hc] at h;injection h with h
      exact h.symm
     subst hres;clear hc hd;have w0:_=some (Aa Ab x):=HI.o.k.k.cell 2;have w1:=HI.o.k.k.frozen 2;have HN:=Hd (HI.o.k.note HAP.o a);have HI9:=Hd (HI.o.step HN.o.1 HN.o.2);have HB9:=Hd (HB.o.trans HN.o.2 fun _ _ h=>h);have s0:_=some (Value.bool false):=HI9.o.s.cell 0;have s1:=HI9.o.s.frozen 0;have HT:=Hd (HI9.o.s.set_ 0 (.bool false));have s2:_=some (Value.bool false):=HT.o.cell 0;go_wp2_with fail;refine⟨.bool false,?_,?_⟩
     ·simp [results,Tryz.f46,go_sem,s2]
     ·exact⟨rfl,⟨_,HI9.o.k.far HLA.o HLM.o HLW.o HSL.o _⟩,Mb HB9.o rfl HSL.o _⟩
    ·have hd:decide (1<v∧fs=true)=false:=decide_eq_false hc;rw [hd];have hr:=HR.o;rw [HFS.o,if_neg hc] at hr;replace HR:=Hd hr;clear hr hc hd;clear HFS;go_upto_if 66 with fail
     go_cut [8,9] from 12 to 88 (fun _ _ wx=>∃wy,wy=wx∧∃h2,Pd h2∧Dn E m h2 x wx∧Fr (Ig E m) w8 wx∧Dz (Ei E.l d) E.l ⟨p,q,t,v⟩ (List.range (lsLen E.l p q t v)) h2=some res)
     case first=>
      by_cases h9:t=9
      ·have e9:(t==9)=true:=beq_iff_eq.2 h9;obtain⟨kp,hk1⟩:∃a,Et E.l p q t v=a:=⟨_,rfl⟩;obtain⟨kq,hk2⟩:∃a,Eu E.l p q t v=a:=⟨_,rfl⟩;obtain⟨kt,hk3⟩:∃a,J0 E.l p q t v=a:=⟨_,rfl⟩;obtain⟨kv,hk4⟩:∃a,Ev E.l p q t v=a:=⟨_,rfl⟩;obtain⟨ke,hk5⟩:∃a,Gh E.l p q t v=a:=⟨_,rfl⟩;have hkey:Cl E.l ⟨p,q,t,v⟩=⟨kp,kq,kt,kv⟩:=by unfold Cl;simp only [hk1,hk2,hk3,hk4]
       have hkok:Iz ⟨kp,kq,kt,kv⟩:=hkey▸Aa9 E.l ⟨p,q,t,v⟩
       have hr:=HR.o;unfold Ml at hr;rw [if_pos h9,hkey] at hr;have HP:=Hd hk1;have HQQ:=Hd hk2;have HT:=Hd hk3;have HV:=Hd hk4;have HKE:=Hd hk5;have HKOK:=Hd hkok;replace HR:=Hd hr;clear hk1 hk2 hk3 hk4 hk5 hkey hkok hr h9;go_upto_region 12 with fail
       go_cut [8,9] from 12 to 88 (fun u7 u8 wx=>∃wy,wy=wx∧u8= Aa Ab ke∧∃g,u7= .pointer (some ⟨g,0,none⟩)∧Ag wx g 75 #[Aa Ab kp,Aa Ab kq,Aa Ab kt,Aa Ab kv]∧Below w8.heap.size w8 wx)
       case first=>
        have HQ:=Hd (Below.refl w8.heap.size w8);have HX0:=Hd HI.o;have HB0:=Hd (show w8.cell? ⟨bX,0,none⟩=some (.pointer (some ⟨E.bw,0,none⟩)) from HI.o.x.cell 0);have hn1:E.bw≠w8.heap.size:=by have:=HI.o.k.k.lt;omega
        have hn2:bR≠w8.heap.size:=by have:=HI.o.r.lt;omega
        have hn3:bX≠w8.heap.size:=by have:=HI.o.x.lt;omega
        clear HI HB c1;go_region_held3 (fun w'=>w'.cell? ⟨bX,0,none⟩=some (.pointer (some ⟨E.bw,0,none⟩))∧w'.cell? ⟨E.bw,0,none⟩=some (.slice E.A E.n E.c)∧(w'.cell? ⟨bR,0,none⟩=some (Aa Ab p)∧w'.cell? ⟨bR,1,none⟩=some (Aa Ab q)∧w'.cell? ⟨bR,2,none⟩=some (Aa Ab t)∧w'.cell? ⟨bR,3,none⟩=some (Aa Ab v))) ((with_reducible refine⟨?_,?_,?_,?_,?_,?_⟩) <;>(repeat (first|with_reducible assumption|with_reducible refine Bq ?_|with_reducible refine Fz _ ?_|with_reducible refine Oz ?_ ?_)))
         (first|(go_at_call 93;(first|(with_reducible refine(Kk E.A E.n E.c p q t v kp kq kt kv ke E.l _ (HX0.o.k.b.pure HQ.o.drew) hcc (by omega) HP.o HQQ.o HT.o HV.o HKE.o).mono ?_)|(with_reducible refine(Kk E.A E.n E.c p q t v kp kq kt kv ke E.l _ (HX0.o.k.b.pure (HQ.o.alloc HQ.o.size _).drew) hcc (by omega) HP.o HQQ.o HT.o HV.o HKE.o).mono ?_));rintro e w9 ⟨rfl,hb⟩;(first|(with_reducible replace HQ:=Hd (Ad HQ.o.drew hb))|((with_reducible have HK:=Hd ((Ag.new w8 75 #[Aa Ab 0,Aa Ab 0,Aa Ab 0,Aa Ab 0]).drew.pure hb));(with_reducible replace HQ:=Hd (Ad (HQ.o.alloc HQ.o.size _).drew hb));have q0:=Al HK.o;have q1:=Ak HK.o;have q2:=Aj HK.o;have q3:=Am HK.o;have p0:=HK.o.frozen 0;have p1:=HK.o.frozen 1;have p2:=HK.o.frozen 2;have p3:=HK.o.frozen 3));replace b0:=Ae HQ.o HB0.o;replace c0:=Ae HQ.o HX0.o.k.m.c0;replace x0:=Ae HQ.o (Al HX0.o.r);replace x1:=Ae HQ.o (Ak HX0.o.r);replace x2:=Ae HQ.o (Aj HX0.o.r);replace x3:=Ae HQ.o (Am HX0.o.r);have hn4:E.bw≠w9.heap.size:=(by have:=Ao c0;simp only at this;omega);have hn5:bR≠w9.heap.size:=(by have:=Ao x0;simp only at this;omega);have hn6:bX≠w9.heap.size:=(by have:=Ao b0;simp only at this;omega);clear hb))
        all_goals
         go_wp2_with fail;go_meet
         first
          |with_reducible exact⟨_,rfl,rfl,_,rfl,Ag.new _ _ _,HQ.o.alloc HQ.o.size _⟩
          |exact⟨_,rfl,rfl,_,rfl,(((HK.o.set_ 0 _).set_ 1 _).set_ 2 _).set_ 3 _,Cn _ HQ.o (Asp _) _ _ _ _⟩
       case rest=>
       obtain⟨w9,rfl,rfl,g,rfl,hK,hb⟩:=hcut;have k0:=Al hK;have k1:=Ak hK;have k2:=Aj hK;have k3:=Am hK;have HQ:=Hd hb;replace HB:=Hd (HB.o.trans (Fr.of_below hb (Ig E m)) fun _ _ h=>h);replace HI:=Hd (HI.o.pure hb);clear c0 c1 b0 x0 x1 x2 x3;clear hb;have c0:_=some (Value.slice E.A E.n E.c):=HI.o.k.k.cell 0;have c1:_=some (Value.map (some m)):=HI.o.k.k.cell 1;have b0:_=some (Value.pointer (some ⟨E.bw,0,none⟩)):=HI.o.x.cell 0;have x0:=Al HI.o.r;have x1:=Ak HI.o.r;have x2:=Aj HI.o.r;have x3:=Am HI.o.r;clear hK;cases hg:Ei E.l d ⟨kp,kq,kt,kv⟩ had1 with
       |none=>
        have h:=HR.o;rw [hg] at h;cases h
       |some r1=>
        have hr:=HR.o;rw [hg] at hr;have HC:=Hd (HIH.o had1 x kp kq kt kv r1 w9 HI.o.k HKOK.o HPD.o hg);have HPR:=Hd (show ∀h',r1= .ok h'→Pd h' from by obtain⟨r2,h1,h2⟩:=HTT.o _ _ HKOK.o HPD.o;rw [hg] at h1;injection h1 with h1;rw [h1];exact h2);replace HR:=Hd hr;clear hr hg;go_wp2_with fail;go_at_call 46;refine HC.o.mono ?_;clear k0 k1 k2 k3;cases r1 with
        |error a1=>
         rintro e w10 ⟨rfl,⟨hd1,hL⟩,hF⟩;have hres:res= .error a1:=by
          have h:=HR.o;injection h with h
          exact h.symm
         subst hres;have HI9:=Hd (HI.o.step hL hF);have HB9:=Hd (HB.o.trans hF fun _ _ h=>h);clear c0 c1 b0 x0 x1 x2 x3;clear hL hF;have s0:_=some (Value.bool false):=HI9.o.s.cell 0;have s1:=HI9.o.s.frozen 0;have HT:=Hd (HI9.o.s.set_ 0 (.bool false));have s2:_=some (Value.bool false):=HT.o.cell 0;go_wp2_with fail;refine⟨.bool false,?_,?_⟩
         ·simp [results,Tryz.f46,go_sem,s2]
         ·exact⟨rfl,⟨_,HI9.o.k.far HLA.o HLM.o HLW.o HSL.o _⟩,Mb HB9.o rfl HSL.o _⟩
        |ok h2=>
         rintro e w10 ⟨rfl,hL,hF⟩;have HO:=Hd (show ∃h2,Pd h2∧Dn E m h2 x w10∧Fr (Ig E m) w8 w10∧Dz (Ei E.l d) E.l ⟨p,q,t,v⟩ (List.range (lsLen E.l p q t v)) h2=some res from⟨h2,HPR.o _ rfl,hL,(Fr.of_below HQ.o _).trans hF fun _ _ h=>h,HR.o⟩);clear hL hF HR HI HB HC;clear c0 c1 b0 x0 x1 x2 x3;go_wp2_with fail;go_meet;exact⟨_,rfl,HO.o⟩
      ·have e9:(t==9)=false:=beq_eq_false_iff_ne.mpr h9;have hr:=HR.o;unfold Ml at hr;rw [if_neg h9] at hr;replace HR:=Hd hr;clear hr h9;go_wp2_with fail;go_meet;exact⟨_,rfl,_,HPD.o,HI.o.k,Fr.refl _ _,HR.o⟩
     case rest=>
     obtain⟨w9,rfl,h2,hP9,hL9,hF9,hr⟩:=hcut;have HP9:=Hd hP9;replace HR:=Hd hr;replace HI:=Hd (HI.o.step hL9 hF9);replace HB:=Hd (HB.o.trans hF9 fun _ _ h=>h);clear c0 c1 b0 x0 x1 x2 x3;clear hL9 hF9 hr hP9 HPD;have c0:_=some (Value.slice E.A E.n E.c):=HI.o.k.k.cell 0;have c1:_=some (Value.map (some m)):=HI.o.k.k.cell 1;have b0:_=some (Value.pointer (some ⟨E.bw,0,none⟩)):=HI.o.x.cell 0;have x0:=Al HI.o.r;have x1:=Ak HI.o.r;have x2:=Aj HI.o.r;have x3:=Am HI.o.r;go_wp2_with (go_at_call 94;(with_reducible refine(Uk E p q t v _).mono ?_);rintro e w10 ⟨rfl,rfl⟩);have hBA:∀o,Below w9.heap.size w9 (w9.alloc o):=fun o=>(Below.refl _ _).alloc (Asp _) o
     have hb8:Below w9.heap.size w9 ((w9.alloc (.cells #[.pointer (some ⟨E.bw,0,none⟩)] 78)).alloc (.cells #[Aa Ab p,Aa Ab q,Aa Ab t,Aa Ab v] 75)):=(hBA _).alloc (hBA _).size _;replace HI:=Hd (HI.o.pure hb8);replace HB:=Hd (HB.o.trans (Fr.of_below hb8 (Ig E m)) fun _ _ h=>h);have HIT:=Hd (show Nr E p q t v w9.heap.size (w9.heap.size+1) ((w9.alloc (.cells #[.pointer (some ⟨E.bw,0,none⟩)] 78)).alloc (.cells #[Aa Ab p,Aa Ab q,Aa Ab t,Aa Ab v] 75)) from
      ⟨HI.o.k.m,(Ag.new w9 _ _).alloc _,Ag.new_ (by simp) _ _⟩)
     clear c0 c1 b0 x0 x1 x2 x3;clear hBA hb8;generalize w9.heap.size=bx at HIT⊢;generalize (w9.alloc (.cells #[.pointer (some ⟨E.bw,0,none⟩)] 78)).alloc (.cells #[Aa Ab p,Aa Ab q,Aa Ab t,Aa Ab v] 75)=wl at HI HB HIT⊢;obtain⟨N,hN⟩:∃N,lsLen E.l p q t v=N:=⟨_,rfl⟩;have HN:=Hd hN;clear hN;have HML:=Hd HI.o.k.h.lt;have HWL:=Hd HI.o.k.k.lt;refine(wpIn_wide (n:=6)).1 ?_;refine Acb fun a0 ha0=>?_
     refine wpIn_rangeFunc_ownH rfl (by omega) (gf:=174) (lb:=#[.pointer (some ⟨bx,0,none⟩),.pointer (some ⟨bx+1,0,none⟩)]) (by rw [ha0];rfl) trivial (enters_of Tryz.func174 (by kernel_rfl) rfl)
      (P9 E p q t v bx (bx+1) N wl HN.o HIT.o (6-1) (by omega)) Anr Anq (Below.refl _ _) (fun _=>rfl)
      (fun pre W=>∃h,Dz (Ei E.l d) E.l ⟨p,q,t,v⟩ (pre.map (·.val)) h2=some (.ok h)∧Pd h∧Lw E m h x p q t v bX bR bS W∧Fr (Ig E m) w W)
      (fun c pre W=>c= .ret∧∃a h,Dz (Ei E.l d) E.l ⟨p,q,t,v⟩ (pre.map (·.val)) h2=some (.error a)∧Dn E m h a W∧Ag W bS 4 #[.bool false]∧Fr (Ig E m) w W)
      (fun s A B row hs hg hr=>by
       obtain⟨h,h1,h2',h3,h4⟩:=hs;exact⟨h,h1,h2',h3.grown HML.o hg hr,⟨hg.os.trans h4.os,hg.tape.trans h4.tape,hg.output.trans h4.output,Nat.le_trans h4.size hg.size,fun k hk hk2=>(hg.block k (Asu hk h4.size) (fun e=>by have:=(hr k e.symm).1;have:=HB.o.size;omega)).trans (h4.block k hk hk2)⟩⟩)
      (fun c s A B row hs hg hr=>by
       obtain⟨h0,a,h,h1,h2',h3,h4⟩:=hs;exact⟨h0,a,h,h1,h2'.grown HML.o hg hr,Cw hg (fun r e=>(hr r e).2) h3,⟨hg.os.trans h4.os,hg.tape.trans h4.tape,hg.output.trans h4.output,Nat.le_trans h4.size hg.size,fun k hk hk2=>(hg.block k (Asu hk h4.size) (fun e=>by have:=(hr k e.symm).1;have:=HB.o.size;omega)).trans (h4.block k hk hk2)⟩⟩)
      ⟨h2,rfl,HP9.o,HI.o,HB.o⟩
      (fun y a' W=>∃Bx,Ag W Bx 75 #[Aa Ab (Bw E.l ⟨p,q,t,v⟩ y.val).p,Aa Ab (Bw E.l ⟨p,q,t,v⟩ y.val).q,Aa Ab (Bw E.l ⟨p,q,t,v⟩ y.val).t,Aa Ab (Bw E.l ⟨p,q,t,v⟩ y.val).v]∧
       a'={ tmps:=((a0.tmps.setIfInBounds 83 (Aa Ab (y.val:Int))).setIfInBounds 84 (.agg #[Aa Ab (Bw E.l ⟨p,q,t,v⟩ y.val).p,Aa Ab (Bw E.l ⟨p,q,t,v⟩ y.val).q,Aa Ab (Bw E.l ⟨p,q,t,v⟩ y.val).t,Aa Ab (Bw E.l ⟨p,q,t,v⟩ y.val).v])).setIfInBounds 11 (.pointer (some ⟨Bx,0,none⟩)),defers:=[]})
      (fun y a' _ A B row hs hg hr=>by obtain⟨Bx,hb,e⟩:=hs;exact⟨Bx,Cw hg (fun r e=>(hr r e).2) hb,e⟩)
      ?assign ?body ?done ?stop
     case assign=>
      rintro l pre y W K ⟨h,h1,h3,h4,h5⟩ hK;have HQ:=Hd hK;have HH:=Hd (And.intro h1 h3);clear hK h1 h3 HR HI HB HIT HTT HIH;subst ha0;simp only [Z6]
      gi_wp2
      refine HQ.o _ _ ((KeepsOthers.alloc _ _).from _) (fun h=>h.pure ((Below.refl _ _).alloc (Asp _) _)) ⟨h,HH.o.1,HH.o.2,h4.pure ((Below.refl _ _).alloc (Asp _) _),h5.alloc _⟩ ⟨W.heap.size,Ag.new _ _ _,?_⟩;rfl
     case body=>
      rintro l pre y a' W hl ⟨rr,hrr⟩ ⟨h,h1,h3,h4,h5⟩ ⟨Bx,hbx,rfl⟩ hlt;have hok:=Ad1 E.l ⟨p,q,t,v⟩ HVW.o y.val;obtain⟨⟨kp,kq,kt,kv⟩,hcv⟩:∃c,Bw E.l ⟨p,q,t,v⟩ y.val=c:=⟨_,rfl⟩;rw [hcv] at hok hbx⊢;simp only at hbx⊢;obtain⟨r1,hgo,hPr⟩:=HTT.o _ h hok h3;have hsn:=(Sa (Ei E.l d) E.l ⟨p,q,t,v⟩ _ y.val h2 h h1);rw [hcv,hgo] at hsn;have HSN:=Hd (show Dz (Ei E.l d) E.l ⟨p,q,t,v⟩ ((pre++ [y]).map (·.val)) h2=some r1 by rw [List.map_append];exact hsn);have HCA:=Hd (HIH.o h x _ _ _ _ r1 W h4.k hok h3 hgo);have HPR:=Hd hPr;have H4:=Hd h4;have H5:=Hd h5;have b0:W.cell? ⟨bX,0,none⟩=some (.pointer (some ⟨E.bw,0,none⟩)):=h4.x.cell 0;have k0:=Al hbx;have k1:=Ak hbx;have k2:=Aj hbx;have k3:=Am hbx;clear hcv hok hgo hsn hPr h4 h5 h1 h3 hbx HR HI HB HIT HIH HTT;subst ha0
      gi_wp2
      refine⟨trivial,(CallsIn.inRound l (callsIn_wide.2 HCA.o)).mono ?_⟩;clear b0 k0 k1 k2 k3;cases r1 with
      |error a1=>
       rintro e W3 ⟨rfl,⟨hd,hL⟩,hF⟩;have HS:=Hd (H4.o.step hL hF).s;have HL:=Hd hL;have HF:=Hd hF;clear hL hF;have s0:_=some (Value.bool false):=HS.o.cell 0;have s1:=HS.o.frozen 0
       gi_wp2
       exact⟨(Qn HF.o HML.o HWL.o).trans ((KeepsOthers.setCell _ _ _).from _),⟨rfl,a1,_,HSN.o,HL.o.far HLA.o HLM.o HLW.o HSL.o _,HS.o.set_ 0 _,Mb (H5.o.trans HF.o fun _ _ h=>h) rfl HSL.o _⟩⟩
      |ok h'=>
       rintro e W3 ⟨rfl,hL,hF⟩;have HL:=Hd hL;have HF:=Hd hF;clear hL hF
       gi_wp2
       exact⟨Qn HF.o HML.o HWL.o,fun hi=>⟨HL.o.m,hi.x.fr HF.o (fun hs=>hs.elim (Ln hi.x H4.o.k.h) (hi.x.ne_ H4.o.k.k (by decide))),hi.r.fr HF.o (fun hs=>hs.elim (Ln hi.r H4.o.k.h) (hi.r.ne_ H4.o.k.k (by decide)))⟩,⟨h',HSN.o,HPR.o _ rfl,H4.o.step HL.o HF.o,H5.o.trans HF.o fun _ _ h=>h⟩⟩
     case done=>
      rintro D ys W hD rfl ⟨h,h1,h3,h4,h5⟩ hK;have hres:res= .ok h:=by
       have e1:=HR.o;rw [HN.o,←Aac,h1] at e1;injection e1 with e1
       exact e1.symm
      subst hres;have HL:=Hd h4;have HF:=Hd h5;have HD:=Hd (Nat.le_trans HB.o.size hD);have HMD:=Hd (Asu HLM.o (Nat.le_trans HB.o.size hD));clear h1 h3 h4 h5 HR HI HB HIT HTT HIH;subst ha0;have s0:W.cell? ⟨bS,0,none⟩=some (.bool false):=HL.o.s.cell 0;have s1:=HL.o.s.frozen 0;have HS2:=Hd (HL.o.s.set_ 0 (.bool true));have hK':=(KeepsOthers.setCell W ⟨bS,0,none⟩ (.bool true)).same D _ hK rfl;go_wp2_with fail;refine⟨by simp,.inl ⟨_,_,rfl,run_takeDeferred hK',?_⟩⟩;have hc5:=Cw (grownBy_putObj' _ D (.deferred none)) (fun r e=>by cases e;exact⟨_,hK',rfl⟩) HS2.o;have hc6:_=some (Value.bool true):=hc5.cell 0;refine⟨.bool true,?_,?_⟩
      ·simp [results,Tryz.f46,go_sem,hc6]
      ·exact⟨rfl,(HL.o.k.far HLA.o HLM.o HLW.o HSL.o _).grown HMD.o (grownBy_putObj' _ D (.deferred none)) (fun r e=>by cases e;exact⟨Asp _,_,hK',rfl⟩),Ain (Mb HF.o rfl HSL.o _) HD.o hK'⟩
     case stop=>
      rintro D c pre W hD hpre ⟨rfl,a1,h,h1,h3,h4,h5⟩ hK;have hres:res= .error a1:=by
       obtain⟨js,hjs⟩:=hpre;have e1:=HR.o;rw [HN.o,←Aac,←hjs,List.map_append,Vj _ _ _ _ _ _ _ h1] at e1;injection e1 with e1
       exact e1.symm
      subst hres;have HL:=Hd h3;have HS:=Hd h4;have HF:=Hd h5;have HD:=Hd (Nat.le_trans HB.o.size hD);have HMD:=Hd (Asu HLM.o (Nat.le_trans HB.o.size hD));clear h1 h3 h4 h5 HR HI HB HIT HTT HIH;subst ha0
      gi_wp2
      refine⟨by simp,.inl ⟨_,_,rfl,run_takeDeferred hK,?_⟩⟩;have hc5:=Cw (grownBy_putObj' W D (.deferred none)) (fun r e=>by cases e;exact⟨_,hK,rfl⟩) HS.o;have hc6:_=some (Value.bool false):=hc5.cell 0;refine⟨.bool false,?_,?_⟩
      ·simp [results,Tryz.f46,go_sem,hc6]
      ·exact⟨rfl,⟨_,HL.o.grown HMD.o (grownBy_putObj' _ D (.deferred none)) (fun r e=>by cases e;exact⟨Asp _,_,hK,rfl⟩)⟩,Ain HF.o HD.o hK⟩
end Go.Proofs.YtgbjodnegkbfoaaGreat
